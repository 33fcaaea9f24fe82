/- Part 1: functions on the way, plain laws. Conditions: as said. -/
import Derived.WalkKit
import Derived.ProofKit
import Derived.Handy
import Derived.WalkSmall
import Derived.Deep.QuietTactic
import Derived.BigQuiet
import Derived.StillTailTactics
import Derived.Deep.Quiet
import Derived.StillTail
import Derived.Test.YtmokkddidcmglaaRows
import Derived.Maps.AppendAt
import Derived.ArgAppend
import Derived.Deep.Upon
set_option maxRecDepth 100000
set_option maxHeartbeats 16000000
set_option linter.unusedVariables false
set_option linter.unusedSimpArgs false
open Bool renaming and_eq_true → bR6, eq_iff_iff → bT5
open List renaming all_eq_true → bS2, append_assoc → bV5, eq_nil_of_length_eq_zero → bU3, getElem?_append_left → bT3, getElem?_eq_getElem → bo2, getElem?_eq_none → bT2, getElem?_eq_some_iff → bS0, getElem_mem → bS9, length_append → bR8, length_cons → bS1, length_nil → bS6, length_set → bU7, map_cons → bU0, mem_append → bS7, mem_cons → bU2, mem_cons_of_mem → bU4, mem_cons_self → bU5, mem_of_getElem? → bT0, mem_range → bU9, mem_singleton → bU1, range → bS8, replicate → a04, take → bS3, take_of_length_le → bT9
open Nat renaming le_refl → bS5, le_trans → bT4, lt_or_ge → bT8, mul_le_mul_right → bU6, succ_mul → bT7, zero_add → bV1, zero_le → bU8

namespace Go.Proofs.Ytmokkddidcmglaa
open Go Go.RowKit
def H4 (w : World) (v : Value) (n sz : Nat) (xs : List Value) : Prop :=
 xs.length = n * sz ∧ ∃ a cap, v = .slice a n cap ∧ n ≤ cap ∧ cap ≤ maxLen ∧
  (0 < n → ∃ b off, a = some ⟨b, off, none⟩ ∧ b < w.heap.size ∧ ∀ j u, xs[j]? = some u → w.cell? ⟨b, off + j, none⟩ = some u)
theorem S8 {W w1 : World} (hb : Below W.heap.size W w1) : (∀ b o, b < W.heap.size → w1.cell? ⟨b, o, none⟩ = W.cell? ⟨b, o, none⟩) ∧ (∀ b o, b < W.heap.size → w1.frozen? ⟨b, o, none⟩ = W.frozen? ⟨b, o, none⟩) :=
 ⟨fun b o h => hb.cell (p := ⟨b, o, none⟩) h, fun b o h => hb.frozen (p := ⟨b, o, none⟩) h⟩
theorem H4.below {w w' : World} {v : Value} {n sz : Nat} {xs : List Value} (h : H4 w v n sz xs) (hb : Below w.heap.size w w') : H4 w' v n sz xs := by
 obtain ⟨hl, a, cap, rfl, h1, h2, h3⟩ := h
 refine ⟨hl, a, cap, rfl, h1, h2, fun hn => ?_⟩
 obtain ⟨b, off, rfl, hbk, hc⟩ := h3 hn
 exact ⟨b, off, rfl, Nat.lt_of_lt_of_le hbk hb.size, fun j u hj => ((S8 hb).1 b _ hbk).trans (hc j u hj)⟩
theorem H4.len {w : World} {v : Value} {n sz : Nat} {xs : List Value} (h : H4 w v n sz xs) : n ≤ 9223372036854775807 := by
 obtain ⟨_, a, cap, rfl, h1, h2, _⟩ := h; unfold maxLen at h2; omega
theorem H4.nil (w : World) (sz : Nat) : H4 w (.slice none 0 0) 0 sz [] := ⟨by simp, none, 0, rfl, bS5 _, by unfold maxLen; omega, fun h => absurd h (by omega)⟩
theorem H4.open {w : World} {v : Value} {n sz : Nat} {xs : List Value} (h : H4 w v n sz xs) : ∃ a cap, v = .slice a n cap ∧ n ≤ cap ∧ n ≤ 9223372036854775807 ∧ cap ≤ 9223372036854775807 ∧
  ∀ i, i < n → ∃ b off, a = some ⟨b, off, none⟩ ∧ b < w.heap.size ∧ ∀ j, j < sz → w.cell? ⟨b, off + i * sz + j, none⟩ = xs[i * sz + j]? := by
 obtain ⟨hl, a, cap, rfl, h1, h2, h3⟩ := h
 unfold maxLen at h2
 refine ⟨a, cap, rfl, h1, by omega, by omega, fun i hi => ?_⟩
 obtain ⟨b, off, rfl, hbk, hc⟩ := h3 (by omega)
 refine ⟨b, off, rfl, hbk, fun j hj => ?_⟩
 have hlt : i * sz + j < xs.length := by
  rw [hl]; have := bU6 sz (Nat.succ_le_of_lt hi); rw [bT7] at this; omega
 rw [bo2 hlt, Nat.add_assoc]
 exact hc _ _ (bo2 hlt)
theorem H4.form {w : World} {v : Value} {n sz : Nat} {xs : List Value} (h : H4 w v n sz xs) : ∃ a cap, v = .slice a n cap := by
 obtain ⟨_, a, cap, hv, _⟩ := h
 exact ⟨a, cap, hv⟩
theorem H4.open1 {w : World} {v : Value} {n : Nat} {xs : List Value} (h : H4 w v n 1 xs) : ∃ a cap, v = .slice a n cap ∧ n ≤ cap ∧ n ≤ 9223372036854775807 ∧ cap ≤ 9223372036854775807 ∧
  ∀ i, i < n → ∃ b off, a = some ⟨b, off, none⟩ ∧ b < w.heap.size ∧ w.cell? ⟨b, off + i, none⟩ = xs[i]? := by
 obtain ⟨a, cap, h0, h1, h2, h3, h4⟩ := h.open
 refine ⟨a, cap, h0, h1, h2, h3, fun i hi => ?_⟩
 obtain ⟨b, off, e, hb, hc⟩ := h4 i hi
 exact ⟨b, off, e, hb, by simpa using hc 0 (by omega)⟩
theorem U1 {w : World} {base : Nat} {e : TypeId} {sz : Nat} {v : Value} {n : Nat} {xs : List Value} (h : w.ownsRow base e sz v n xs) : H4 w v n sz xs := by
 refine ⟨h.1, ?_⟩
 rcases h.2 with ⟨rfl, rfl⟩ | ⟨g, cap, cur, rfl, hbg, hg, hnc, hcm, hcs, ht⟩
 ·exact ⟨none, 0, rfl, bS5 _, by unfold maxLen; omega, fun h => absurd h (by omega)⟩
 ·refine ⟨some ⟨g, 0, none⟩, cap, rfl, hnc, hcm, fun _ => ⟨g, 0, rfl, (Array.getElem?_eq_some_iff.1 hg).1, fun j u hj => ?_⟩⟩
  have hadd : (⟨g, 0, none⟩ : Addr).add j = ⟨g, 0 + j, none⟩ := by unfold Addr.add; split <;> simp_all
  rw [← hadd]
  exact h.cells (g := g) rfl j u hj
theorem ar2 {w w' : World} {base B : Nat} {e : TypeId} {sz : Nat} {v : Value} {n : Nat} {xs : List Value} (h : w.ownsRow base e sz v n xs) (hb : Below B w w') (hB : w.heap.size ≤ B) : w'.ownsRow base e sz v n xs := by
 refine ⟨h.1, ?_⟩
 rcases h.2 with hn | ⟨g, cap, cur, rfl, hbg, hg, hnc, hcm, hcs, ht⟩
 ·exact .inl hn
 ·have hlt : g < w.heap.size := (Array.getElem?_eq_some_iff.1 hg).1
  exact .inr ⟨g, cap, cur, rfl, hbg, (hb.block g (by omega)).trans hg, hnc, hcm, hcs, ht⟩
theorem B7 {w : World} {base base' : Nat} {e : TypeId} {sz : Nat} {v : Value} {n : Nat} {xs : List Value} (h : w.ownsRow base e sz v n xs) (hb : base' ≤ base) : w.ownsRow base' e sz v n xs := by
 refine ⟨h.1, ?_⟩
 rcases h.2 with hn | ⟨g, cap, cur, rfl, hbg, r⟩
 ·exact .inl hn
 ·exact .inr ⟨g, cap, cur, rfl, by omega, r⟩
def A9 (w : World) (lo hi : Nat) (e : TypeId) (sz : Nat) (v : Value) (n : Nat) (xs : List Value) : Prop :=
 w.ownsRow lo e sz v n xs ∧ ∀ g, v.ownBlock = some g → g < hi
structure Out (lo hi : Nat) (w w' : World) : Prop where
 os : w'.os = w.os
 tape : w'.tape = w.tape
 output : w'.output = w.output
 size : w.heap.size ≤ w'.heap.size
 block : ∀ k, k < w.heap.size → (k < lo ∨ hi ≤ k) → w'.heap[k]? = w.heap[k]?
theorem Out.refl (lo hi : Nat) (w : World) : Out lo hi w w := ⟨rfl, rfl, rfl, bS5 _, fun _ _ _ => rfl⟩
theorem Out.trans {lo hi : Nat} {a b c : World} (h : Out lo hi a b) (k : Out lo hi b c) : Out lo hi a c :=
 ⟨k.os.trans h.os, k.tape.trans h.tape, k.output.trans h.output, bT4 h.size k.size, fun i hi ho => (k.block i (Nat.lt_of_lt_of_le hi h.size) ho).trans (h.block i hi ho)⟩
theorem Out.wide {lo hi lo' hi' : Nat} {a b : World} (h : Out lo hi a b) (h1 : lo' ≤ lo) (h2 : hi ≤ hi') : Out lo' hi' a b :=
 ⟨h.os, h.tape, h.output, h.size, fun k hk ho => h.block k hk (by omega)⟩
theorem Out.below {lo hi B : Nat} {a b : World} (h : Out lo hi a b) (h1 : B ≤ lo) (h2 : B ≤ a.heap.size) : Below B a b :=
 ⟨h.os, h.tape, h.output, h.size, fun k hk => h.block k (by omega) (by omega)⟩
theorem Out.of_below {lo hi B : Nat} {a b : World} (h : Below B a b) (h1 : a.heap.size ≤ B) : Out lo hi a b :=
 ⟨h.os, h.tape, h.output, h.size, fun k hk _ => h.block k (by omega)⟩
theorem Out.setCell {lo hi : Nat} {a w : World} (h : Out lo hi a w) {p : Addr} (h1 : lo ≤ p.block) (h2 : p.block < hi) (u : Value) : Out lo hi a (w.setCell p u) :=
 h.trans ⟨rfl, rfl, rfl, by simp [World.setCell], fun k _ ho => Below.heap_setCell _ _ _ _ (by omega)⟩
theorem A9.lt {w : World} {lo hi : Nat} {e : TypeId} {sz : Nat} {v : Value} {n : Nat} {xs : List Value} (h : A9 w lo hi e sz v n xs) : ∀ g, v.ownBlock = some g → lo ≤ g ∧ g < hi ∧ g < w.heap.size :=
 fun g hg => ⟨(h.1.lt g hg).1, h.2 g hg, (h.1.lt g hg).2⟩
theorem A9.row {w : World} {lo hi : Nat} {e : TypeId} {sz : Nat} {v : Value} {n : Nat} {xs : List Value} (h : A9 w lo hi e sz v n xs) : H4 w v n sz xs := U1 h.1
theorem A9.mk' {w : World} {lo : Nat} {e : TypeId} {sz : Nat} {v : Value} {n : Nat} {xs : List Value} (h : w.ownsRow lo e sz v n xs) : A9 w lo w.heap.size e sz v n xs :=
 ⟨h, fun g hg => (h.lt g hg).2⟩
theorem A9.wide {w : World} {lo hi lo' hi' : Nat} {e : TypeId} {sz : Nat} {v : Value} {n : Nat} {xs : List Value} (h : A9 w lo hi e sz v n xs) (h1 : lo' ≤ lo) (h2 : hi ≤ hi') : A9 w lo' hi' e sz v n xs :=
 ⟨B7 h.1 h1, fun g hg => Nat.lt_of_lt_of_le (h.2 g hg) h2⟩
theorem A9.form {w : World} {lo hi : Nat} {e : TypeId} {sz : Nat} {v : Value} {n : Nat} {xs : List Value} (h : A9 w lo hi e sz v n xs) : ∃ a cap, v = .slice a n cap := by
 obtain ⟨_, a, cap, hv, _⟩ := h.row
 exact ⟨a, cap, hv⟩
theorem A9.same {w w' : World} {lo hi : Nat} {e : TypeId} {sz : Nat} {v : Value} {n : Nat} {xs : List Value} (h : A9 w lo hi e sz v n xs)
  (hs : ∀ g, v.ownBlock = some g → w'.heap[g]? = w.heap[g]?) : A9 w' lo hi e sz v n xs := by
 refine ⟨⟨h.1.1, ?_⟩, h.2⟩
 rcases h.1.2 with hn | ⟨g, cap, cur, rfl, hbg, hg, r⟩
 ·exact .inl hn
 ·exact .inr ⟨g, cap, cur, rfl, hbg, (hs g rfl).trans hg, r⟩
theorem A9.keep {w w' : World} {lo hi B : Nat} {e : TypeId} {sz : Nat} {v : Value} {n : Nat} {xs : List Value} (h : A9 w lo hi e sz v n xs) (hb : Below B w w') (hB : hi ≤ B) : A9 w' lo hi e sz v n xs :=
 h.same fun g hg => hb.block g (by have := h.lt g hg; omega)
theorem A9.out {w w' : World} {lo hi lo' hi' : Nat} {e : TypeId} {sz : Nat} {v : Value} {n : Nat} {xs : List Value} (h : A9 w lo hi e sz v n xs) (ho : Out lo' hi' w w') (hd : hi ≤ lo' ∨ hi' ≤ lo) : A9 w' lo hi e sz v n xs :=
 h.same fun g hg => ho.block g (h.lt g hg).2.2 (by have := h.lt g hg; omega)
theorem A9.open {w : World} {lo hi : Nat} {e : TypeId} {sz : Nat} {v : Value} {n : Nat} {xs : List Value} (h : A9 w lo hi e sz v n xs) (hn : 0 < n) :
  ∃ g cap, v = .slice (some ⟨g, 0, none⟩) n cap ∧ lo ≤ g ∧ g < hi ∧ g < w.heap.size ∧ n ≤ cap ∧ cap ≤ maxLen ∧ (∀ o, w.frozen? ⟨g, o, none⟩ = false) ∧ ∀ j u, xs[j]? = some u → w.cell? ⟨g, j, none⟩ = some u := by
 have hl := h.lt
 rcases h.1.2 with ⟨_, h0⟩ | ⟨g, cap, cur, rfl, hbg, hg, hnc, hcm, hcs, ht⟩
 ·omega
 ·obtain ⟨l1, l2, l3⟩ := hl g rfl
  refine ⟨g, cap, rfl, l1, l2, l3, hnc, hcm, fun o => ?_, fun j u hj => ?_⟩
  ·simp only [World.frozen?, hg]; simp
  ·have hadd : (⟨g, 0, none⟩ : Addr).add j = ⟨g, j, none⟩ := by unfold Addr.add; split <;> simp_all
   rw [← hadd]
   exact h.1.cells (g := g) rfl j u hj
theorem A9.at {w : World} {lo hi : Nat} {e : TypeId} {sz : Nat} {v : Value} {n : Nat} {xs : List Value} (h : A9 w lo hi e sz v n xs) {j : Nat} (hj : j < xs.length) :
  ∃ g cap, v = .slice (some ⟨g, 0, none⟩) n cap ∧ lo ≤ g ∧ g < hi ∧ g < w.heap.size ∧ w.frozen? ⟨g, j, none⟩ = false ∧ ∃ u, w.cell? ⟨g, j, none⟩ = some u := by
 have hn : 0 < n := by
  rcases Nat.eq_zero_or_pos n with h0 | h0
  ·subst h0; have := h.1.1; omega
  ·exact h0
 obtain ⟨g, cap, hv, h1, h2, h3, _, _, h4, h5⟩ := h.open hn
 exact ⟨g, cap, hv, h1, h2, h3, h4 j, _, h5 j _ (bo2 hj)⟩
theorem A9.setCell {w : World} {lo hi : Nat} {e : TypeId} {sz : Nat} {n cap g : Nat} {xs : List Value} (h : A9 w lo hi e sz (.slice (some ⟨g, 0, none⟩) n cap) n xs) {j : Nat} (_hj : j < xs.length) (u : Value) :
  A9 (w.setCell ⟨g, j, none⟩ u) lo hi e sz (.slice (some ⟨g, 0, none⟩) n cap) n (xs.set j u) := by
 refine ⟨⟨by rw [bU7]; exact h.1.1, ?_⟩, h.2⟩
 rcases h.1.2 with ⟨hv, _⟩ | ⟨g', cap', cur, hv, hbg, hg, hnc, hcm, hcs, ht⟩
 ·cases hv
 ·cases hv
  refine .inr ⟨g, cap, cur.setIfInBounds j u, rfl, hbg, ?_, hnc, hcm, by simpa using hcs, ?_⟩
  ·have hlt := (Array.getElem?_eq_some_iff.1 hg).1
   simp only [World.setCell, Array.getElem?_modify]
   simp [hg]
  ·rw [Array.toList_setIfInBounds, List.take_set, ht]
theorem o0 {a b : Bool} (h : a = b) : Ending.returned (.bool a) = .returned (.bool b) := by rw [h]
theorem M8 {k : IntKind} {a b : Int} (h : a = b) : Ending.returned (.int k a) = .returned (.int k b) := by rw [h]
theorem x5 {α : Type} (l : List α) (k : Nat) (h : k < l.length) : l.take (k + 1) = l.take k ++ [l[k]] := by
 rw [List.take_succ_eq_append_getElem h]
theorem ac1 {α : Type} (ys : List α) (k : Nat) (u : α) (h : k < ys.length) : (ys.set k u).take (k + 1) = ys.take k ++ [u] := by
 rw [x5 _ _ (by simpa using h), List.take_set_of_le (bS5 _)]; simp
def B9 (z : List Value) (n : Nat) : List Value := (a04 n z).flatten
theorem J5 (z : List Value) (n : Nat) : (B9 z n).length = n * z.length := by simp [B9]
theorem I8 (z : Value) (n : Nat) : B9 [z] n = a04 n z := by
 unfold B9
 induction n with
 | zero => rfl
 | succ n ih => rw [List.replicate_succ, List.flatten_cons, ih]; rfl
theorem as3 (z : Array Value) (n : Nat) (_hz : 0 < z.size) : madeCells z (n * z.size) = (B9 z.toList n).toArray := by
 apply Array.ext
 ·simp [size_madeCells, J5]
 ·intro i h1 h2
  simp only [madeCells, Array.getElem_map, Array.getElem_range, List.getElem_toArray]
  have hlt : i < (B9 z.toList n).length := by simpa using h2
  have key : ∀ (m i : Nat), i < (B9 z.toList m).length → (B9 z.toList m)[i]? = some (z[i % z.size]!) := by
   intro m
   induction m with
   | zero => intro i hi; simp [B9] at hi
   | succ m ih =>
    intro i hi
    have e : B9 z.toList (m + 1) = z.toList ++ B9 z.toList m := by simp [B9, List.replicate_succ]
    rw [e]
    by_cases hlt : i < z.size
    ·rw [bT3 (by simpa using hlt), Nat.mod_eq_of_lt hlt]
     simp [hlt]
    ·rw [List.getElem?_append_right (by simp; omega)]
     have := ih (i - z.toList.length) (by rw [e, bR8] at hi; rw [Array.length_toList] at hi ⊢; omega)
     rw [this]
     congr 2
     rw [Array.length_toList]
     exact (Nat.mod_eq_sub_mod (by omega)).symm
  have := key n i hlt
  rw [bo2 hlt] at this
  exact (Option.some.inj this).symm
theorem as2 {P : Program} {t e : TypeId} {z : Value} {size bytes : Nat} (ht : P.underlying t = some (.slice e)) (hi : (P.info? e).map (fun i => (i.zero, i.size, i.bytes)) = some (some z, size, bytes))
  (hz : z.cells.size = size) (hs : 0 < size) (n : Nat) (hn : bytes * n ≤ 281474976710656) (hm : n ≤ 9223372036854775807) :
  ∀ w, (Instr.makeSlice t (.int .i64 n) (.int .i64 n)).run P w = .ok (.slice (some ⟨w.heap.size, 0, none⟩) n n) (w.alloc (.cells (B9 z.cells.toList n).toArray e)) := by
 intro w
 obtain ⟨i, h1, h2, h3, h4⟩ := info_parts hi
 have := run_make (P := P) w t e i z ht h1 h2 .i64 .i64 n n (by omega) (Int.le_refl _) (by rw [h4, ← Int.natCast_mul]; omega) (by omega)
 rw [this]
 simp only [Int.toNat_natCast, h3]
 subst hz
 rw [as3 _ _ hs]
theorem y6 (w : World) {g : Nat} (cs : Array Value) (n sz : Nat) (e : TypeId) (hg : g = w.heap.size) (hz : cs.size = n * sz) (hm : n ≤ 9223372036854775807) :
  A9 (w.alloc (.cells cs e)) w.heap.size (w.heap.size + 1) e sz (.slice (some ⟨g, 0, none⟩) n n) n cs.toList := by
 subst hg
 refine ⟨⟨by simpa using hz, .inr ⟨w.heap.size, n, _, rfl, bS5 _, heap_alloc_new w _, bS5 _, by unfold maxLen; omega, hz, ?_⟩⟩, fun g hg => by cases hg; exact Nat.lt_succ_self _⟩
 rw [← hz]
 exact bT9 (by simp)
theorem ar4 (w : World) (z : List Value) (n sz : Nat) (e : TypeId) (hz : z.length = sz) (hm : n ≤ 9223372036854775807) :
  A9 (w.alloc (.cells (B9 z n).toArray e)) w.heap.size (w.heap.size + 1) e sz (.slice (some ⟨w.heap.size, 0, none⟩) n n) n (B9 z n) := by
 refine ⟨⟨by rw [J5, hz], .inr ⟨w.heap.size, n, _, rfl, bS5 _, heap_alloc_new w _, bS5 _, by unfold maxLen; omega, by simp [J5, hz], ?_⟩⟩, fun g hg => by cases hg; exact Nat.lt_succ_self _⟩
 have : (B9 z n).length = n * sz := by rw [J5, hz]
 rw [← this]
 simp
def setFrom (ys : List Value) (p : Nat) : List Value → List Value
 | [] => ys
 | u :: r => setFrom (ys.set p u) (p + 1) r
def World.setFrom (w : World) (g p : Nat) : List Value → World
 | [] => w
 | u :: r => World.setFrom (w.setCell ⟨g, p, none⟩ u) g (p + 1) r
theorem D7 (us : List Value) : ∀ (ys : List Value) (p : Nat), (setFrom ys p us).length = ys.length := by
 induction us with
 | nil => intro ys p; rfl
 | cons u r ih => intro ys p; simp [setFrom, ih]
theorem af7 (us : List Value) : ∀ (ys : List Value) (p : Nat), p + us.length ≤ ys.length → (setFrom ys p us).take (p + us.length) = ys.take p ++ us := by
 induction us with
 | nil => intro ys p h; simp [setFrom]
 | cons u r ih =>
  intro ys p h
  simp only [bS1] at h
  have := ih (ys.set p u) (p + 1) (by simp; omega)
  simp only [setFrom, bS1]
  rw [show p + (r.length + 1) = p + 1 + r.length by omega, this, ac1 _ _ _ (by omega)]
  simp
theorem A9.setFrom {lo hi : Nat} {e : TypeId} {sz n cap g : Nat} (us : List Value) : ∀ {w : World} {xs : List Value} {p : Nat}, A9 w lo hi e sz (.slice (some ⟨g, 0, none⟩) n cap) n xs → p + us.length ≤ xs.length →
  A9 (World.setFrom w g p us) lo hi e sz (.slice (some ⟨g, 0, none⟩) n cap) n (setFrom xs p us) := by
 induction us with
 | nil => intro w xs p h _; exact h
 | cons u r ih =>
  intro w xs p h hl
  simp only [bS1] at hl
  exact ih (h.setCell (by omega) u) (by simp; omega)
theorem Out.setFrom {lo hi g : Nat} {a : World} (us : List Value) : ∀ {w : World} {p : Nat}, Out lo hi a w → lo ≤ g → g < hi → Out lo hi a (World.setFrom w g p us) := by
 induction us with
 | nil => intro w p h _ _; exact h
 | cons u r ih => intro w p h h1 h2; exact ih (h.setCell h1 h2 u) h1 h2
def ah7 (u v : Value) : Prop := ∀ g, u.ownBlock = some g → v.ownBlock ≠ some g
theorem ah7.symm {u v : Value} (h : ah7 u v) : ah7 v u := fun g h1 h2 => h g h2 h1
theorem a16 {w w' : World} {lo hi lo' hi' : Nat} {e e' : TypeId} {sz sz' : Nat} {v v' : Value} {n n' : Nat} {xs xs' : List Value} (h : A9 w lo hi e sz v n xs) (h' : A9 w' lo' hi' e' sz' v' n' xs') (hd : hi ≤ lo' ∨ hi' ≤ lo) : ah7 v v' := by
 intro g h1 h2
 have := h.lt g h1
 have := h'.lt g h2
 omega
def C2 (w : World) (b : Nat) (cs : List Value) : Prop := ∃ T, w.heap[b]? = some (.cells cs.toArray T (0, 0))
theorem C2.lt {w : World} {b : Nat} {cs : List Value} (h : C2 w b cs) : b < w.heap.size := by
 obtain ⟨T, h⟩ := h; exact (Array.getElem?_eq_some_iff.1 h).1
theorem C2.cell {w : World} {b : Nat} {cs : List Value} (h : C2 w b cs) (j : Nat) : w.cell? ⟨b, j, none⟩ = cs[j]? := by
 obtain ⟨T, h⟩ := h; simp [World.cell?, h]
theorem C2.free {w : World} {b : Nat} {cs : List Value} (h : C2 w b cs) (j : Nat) : w.frozen? ⟨b, j, none⟩ = false := by
 obtain ⟨T, h⟩ := h; simp only [World.frozen?, h]; simp
theorem C2.below {w w' : World} {b B : Nat} {cs : List Value} (h : C2 w b cs) (hb : Below B w w') (hB : b < B) : C2 w' b cs := by
 obtain ⟨T, h⟩ := h; exact ⟨T, (hb.block b hB).trans h⟩
theorem C2.out {w w' : World} {b lo hi : Nat} {cs : List Value} (h : C2 w b cs) (hb : Out lo hi w w') (hB : b < lo ∨ hi ≤ b) : C2 w' b cs := by
 have hlt := h.lt
 obtain ⟨T, h⟩ := h; exact ⟨T, (hb.block b hlt hB).trans h⟩
theorem C2.set {w : World} {b j : Nat} {cs : List Value} (h : C2 w b cs) (u : Value) : C2 (w.setCell ⟨b, j, none⟩ u) b (cs.set j u) := by
 obtain ⟨T, h⟩ := h
 refine ⟨T, ?_⟩
 simp only [World.setCell, Array.getElem?_modify]
 simp [h]
theorem C2.other {w : World} {b : Nat} {p : Addr} {cs : List Value} (h : C2 w b cs) (hp : b ≠ p.block) (u : Value) : C2 (w.setCell p u) b cs := by
 obtain ⟨T, h⟩ := h; exact ⟨T, (Below.heap_setCell _ _ _ _ hp).trans h⟩
theorem C2.new (w : World) (cs : List Value) (T : TypeId) : C2 (w.alloc (.cells cs.toArray T)) w.heap.size cs := ⟨T, heap_alloc_new w _⟩
theorem C2.new' (w : World) {b : Nat} (cs : List Value) (T : TypeId) (hb : b = w.heap.size) : C2 (w.alloc (.cells cs.toArray T)) b cs := by subst hb; exact C2.new w cs T
theorem C2.alloc {w : World} {b : Nat} {cs : List Value} (h : C2 w b cs) (o : Obj) : C2 (w.alloc o) b cs := by
 have hlt := h.lt
 obtain ⟨T, h⟩ := h; exact ⟨T, (Below.heap_alloc w o b hlt).trans h⟩
theorem C2.drew {w : World} {b : Nat} {cs : List Value} (h : C2 w b cs) : C2 w.drew b cs := h
theorem Out.cell (w : World) (b j : Nat) (u : Value) : Out b (b + 1) w (w.setCell ⟨b, j, none⟩ u) :=
 Out.setCell (p := ⟨b, j, none⟩) (Out.refl b (b + 1) w) (bS5 b) (Nat.lt_succ_self b) u
theorem A9.other {w : World} {lo hi : Nat} {e : TypeId} {sz : Nat} {v : Value} {n : Nat} {xs : List Value} (h : A9 w lo hi e sz v n xs) {b : Nat} (hb : b < lo ∨ hi ≤ b) (j : Nat) (u : Value) : A9 (w.setCell ⟨b, j, none⟩ u) lo hi e sz v n xs :=
 h.out (Out.cell w b j u) (by omega)
def _root_.Go.World.ext (w X : World) : World := { w with heap := w.heap ++ X.heap, drawn := X.drawn }
theorem x8 (w : World) (X : World) : Below w.heap.size w (w.ext X) :=
 ⟨rfl, rfl, rfl, by simp [World.ext], fun k hk => by simp only [World.ext]; rw [Array.getElem?_append_left hk]⟩
theorem aA4 {w w' : World} (h : Below w.heap.size w w') : ∃ X, w' = w.ext X := by
 refine ⟨{ w' with heap := w'.heap.extract w.heap.size w'.heap.size }, ?_⟩
 obtain ⟨h1, h2, h3, h4, h5⟩ := h
 have hh : w'.heap = w.heap ++ w'.heap.extract w.heap.size w'.heap.size := by
  apply Array.ext_getElem?
  intro i
  rcases bT8 i w.heap.size with hi | hi
  ·rw [Array.getElem?_append_left hi, h5 i hi]
  ·rw [Array.getElem?_append_right hi, Array.getElem?_extract]
   split
   ·rw [show w.heap.size + (i - w.heap.size) = i by omega]
   ·rename_i hn
    rw [Array.getElem?_eq_none]
    simp at hn
    omega
 cases w; cases w'
 simp only [World.ext] at *
 subst h1 h2 h3
 rw [← hh]
theorem A8 {w : World} {b o : Nat} {v : Value} (h : w.cell? ⟨b, o, none⟩ = some v) (X : World) : (w.ext X).cell? ⟨b, o, none⟩ = some v := by
 have hb : b < w.heap.size := World.block_lt_of_cell? w ⟨b, o, none⟩ h
 rw [(S8 (x8 w X)).1 b o hb]; exact h
theorem Calls.ext_of' {P : Program} {f : FuncId} {args : Array Value} {w : World} {X : World} {v : Value}
  (h : Calls P f args (w.ext X) fun e w' => e = .returned v ∧ Below (w.ext X).heap.size (w.ext X) w') : Calls P f args (w.ext X) fun e w'' => e = .returned v ∧ ∃ Y, w'' = w.ext Y :=
 h.mono fun _ _ ⟨he, hb⟩ => ⟨he, aA4 ((x8 w X).trans (hb.mono (x8 w X).size))⟩
theorem F0 {P : Program} {id : Nat} {Q : Exit → Act → World → Prop} {a : Act} {w : World} {l : List Oper} (hm : P.follows .mixedOrders = true) (hB : Region.lexB .any l.toArray = true)
  (h : wpQuiet P l.toArray (fun w' => ∃ X, w' = w.ext X) (fun a' => ∀ w', (∃ X, w' = w.ext X) → Q .normal a' w') l a) : (Code.region id l.toArray true).wp P Q a w :=
 wp_region_quiet (C := fun w' => ∃ X, w' = w.ext X) hm hB (aA4 (w' := w.drew) (Below.refl _ _).drew) (by simpa using h)
theorem ai7 {P : Program} {f : FuncId} {fn : Func} {c : Code} (hf : P.funcs[f]? = some fn) (hn : (fn.name == "runtime.NumGoroutine") = false) (hb : fn.body = some c) :
  ∀ args w, (callFunc f args).run P w = .ok (.enter f args) w := by
 intro args w
 have h1 : fn.name ≠ "runtime.NumGoroutine" := by simpa using hn
 simp [callFunc, hf, h1, hb, mark]
end Go.Proofs.Ytmokkddidcmglaa

namespace Go.Proofs.Ytmokkddidcmglaa
theorem S6 {α : Type} (l : List α) (k : Nat) (h : k < l.length) : l.take (k + 1) = l.take k ++ [l[k]] := by
 rw [List.take_succ_eq_append_getElem h]
theorem N1 {α : Type} (p : α → Bool) (l : List α) (k : Nat) (h : k < l.length) : (l.take (k + 1)).all p = ((l.take k).all p && p l[k]) := by
 rw [S6 l k h, List.all_append]; simp
theorem ag5 {α : Type} {p : α → Bool} {l : List α} {k : Nat} (h : k < l.length) (hp : p l[k] = false) : l.all p = false := by
 rw [List.all_eq_false]; exact ⟨l[k], bS9 h, by simp [hp]⟩
structure c7 where
 op : Int
 a : Int
 b : Int
 c : Int
 d : Int
def c7.l (x : c7) : List Int := [x.op, x.a, x.b, x.c, x.d]
def ab1 : List c7 → List Int
 | [] => []
 | x :: r => x.op :: x.a :: x.b :: x.c :: x.d :: ab1 r
theorem bf7 (l : List c7) : (ab1 l).length = l.length * 5 := by
 induction l with
 | nil => rfl
 | cons x r ih => simp [ab1, ih]; omega
theorem c7.ext' {x y : c7} (h : x.l = y.l) : x = y := by
 cases x; cases y; simp [c7.l] at h; simp [h]
theorem aL4 (l : List c7) (i : Nat) (hi : i < l.length) : (ab1 l)[i * 5]? = some l[i].op ∧ (ab1 l)[i * 5 + 1]? = some l[i].a ∧ (ab1 l)[i * 5 + 2]? = some l[i].b ∧ (ab1 l)[i * 5 + 3]? = some l[i].c ∧ (ab1 l)[i * 5 + 4]? = some l[i].d := by
 induction l generalizing i with
 | nil => simp at hi
 | cons x r ih =>
  cases i with
  | zero => simp [ab1]
  | succ i =>
   rw [bT7]
   have := ih i (by simpa using hi)
   simpa [ab1, Nat.add_assoc] using this
structure d7 where
 vars : List Int
 arrays : List Int
 list : List c7
def d7.size (c : d7) : Nat := c.vars.length + c.arrays.length + c.list.length
def d7.same (c d : d7) : Bool := decide (c.vars = d.vars) && decide (c.arrays = d.arrays) && decide (ab1 c.list = ab1 d.list)
def A7 (l : Int) : Bool := decide (0 ≤ l) && decide (l ≤ 3)
def D4 (vars arrays : List Int) : Bool := vars.all A7 && arrays.all A7 && decide (1 ≤ vars.length) && decide (vars.length ≤ 12) && decide (arrays.length ≤ 2)
def J9 (c : d7) (kd : UInt8) (n : Int) : Bool :=
 if kd = 114 then decide (0 ≤ n) && decide (n < 14)
 else if kd = 99 then decide (0 ≤ n) && decide (n ≤ 255)
 else if kd = 118 then decide (0 ≤ n) && decide (n < c.vars.length)
 else if kd = 97 then decide (0 ≤ n) && decide (n < c.arrays.length)
 else if kd = 111 then decide (4 ≤ n) && decide (n ≤ 10)
 else decide (0 ≤ n) && decide (n < c.list.length)
def e6 (op : Int) : List UInt8 :=
 if op = 1 then [114, 99] else if op = 2 then [114, 118] else if op = 3 then [118, 114] else if op = 4 then [114, 97, 114] else if op = 5 then [97, 114, 114]
 else if op = 6 then [114, 111, 114, 114] else if op = 7 then [114, 114, 114, 114] else if op = 8 then [116] else if op = 9 then [114, 116] else if op = 10 then [114, 116]
 else if op = 11 then [114] else []
def C3 (c : d7) (kinds : List UInt8) (k : Nat) (n : Int) : Bool :=
 match kinds[k]? with
 | some kd => J9 c kd n
 | none => decide (n = 0)
def y8 (c : d7) (x : c7) : Bool :=
 decide (1 ≤ x.op) && decide (x.op ≤ 13) && (C3 c (e6 x.op) 0 x.a && C3 c (e6 x.op) 1 x.b && C3 c (e6 x.op) 2 x.c && C3 c (e6 x.op) 3 x.d)
def V3 (c : d7) : Bool := match c.list.getLast? with | some x => decide (x.op = 13) || decide (x.op = 8) | none => false
def f8 (c : d7) : Bool := D4 c.vars c.arrays && decide (1 ≤ c.list.length) && decide (c.list.length ≤ 400) && c.list.all (y8 c) && V3 c
theorem M5 (op : Int) : (e6 op).length ≤ 4 := by
 have key : ∀ (c : Prop) [Decidable c] (a b : List UInt8), a.length ≤ 4 → b.length ≤ 4 → (if c then a else b).length ≤ 4 := fun c _ a b h1 h2 => by split <;> assumption
 unfold e6
 repeat' (apply key)
 all_goals decide
def Y7 (c : d7) (kinds : List UInt8) (parts : List Int) (k : Nat) : Bool := (bS8 k).all fun j => C3 c kinds j (parts.getD j 0)
theorem aq9 (c : d7) (kinds : List UInt8) (parts : List Int) (k : Nat) : Y7 c kinds parts (k + 1) = (Y7 c kinds parts k && C3 c kinds k (parts.getD k 0)) := by
 simp [Y7, List.range_succ]
theorem aR3 (c : d7) (kinds : List UInt8) (x : c7) : Y7 c kinds [x.a, x.b, x.c, x.d] 4 = (C3 c kinds 0 x.a && C3 c kinds 1 x.b && C3 c kinds 2 x.c && C3 c kinds 3 x.d) := by
 show Y7 c kinds _ (0 + 1 + 1 + 1 + 1) = _
 simp only [aq9]
 simp [Y7]
theorem ar0 {c : d7} {kinds : List UInt8} {parts : List Int} {k : Nat} (n : Nat) (hk : k < n) (h : C3 c kinds k (parts.getD k 0) = false) : Y7 c kinds parts n = false := by
 unfold Y7
 rw [List.all_eq_false]
 exact ⟨k, by simpa using hk, by simpa using h⟩
def G3 (c : d7) (kd : UInt8) (n : Int) : Bool :=
 if kd = 114 then decide (0 ≤ n) && decide (n ≤ 13)
 else if kd = 118 then decide (0 ≤ n) && decide (n ≤ (c.vars.length : Int) - 1)
 else if kd = 97 then decide (0 ≤ n) && decide (n ≤ (c.arrays.length : Int) - 1)
 else if kd = 110 then decide (0 ≤ n) && decide (n ≤ 255)
 else if kd = 111 then decide (4 ≤ n) && decide (n ≤ 10)
 else if kd = 105 then decide (0 ≤ n) && decide (n ≤ (c.list.length : Int) - 1)
 else decide (n = 0)
def I5 (op : Int) : List UInt8 :=
 if op = 1 then [114, 110, 45, 45] else if op = 2 then [114, 118, 45, 45] else if op = 3 then [118, 114, 45, 45] else if op = 4 then [114, 97, 114, 45] else if op = 5 then [97, 114, 114, 45]
 else if op = 6 then [114, 111, 114, 114] else if op = 7 then [114, 114, 114, 114] else if op = 8 then [105, 45, 45, 45] else if op = 9 then [114, 105, 45, 45] else if op = 10 then [114, 105, 45, 45]
 else if op = 11 then [114, 45, 45, 45] else if op = 12 then [45, 45, 45, 45] else if op = 13 then [45, 45, 45, 45] else []
def ar1 (c : d7) (kinds : List UInt8) (parts : List Int) (k : Nat) : Bool := (bS8 k).all fun j => G3 c (kinds.getD j 0) (parts.getD j 0)
theorem az2 (c : d7) (kinds : List UInt8) (parts : List Int) (k : Nat) : ar1 c kinds parts (k + 1) = (ar1 c kinds parts k && G3 c (kinds.getD k 0) (parts.getD k 0)) := by
 simp [ar1, List.range_succ]
theorem a39 {c : d7} {kinds : List UInt8} {parts : List Int} {k : Nat} (n : Nat) (hk : k < n) (h : G3 c (kinds.getD k 0) (parts.getD k 0) = false) : ar1 c kinds parts n = false := by
 unfold ar1
 rw [List.all_eq_false]
 exact ⟨k, by simpa using hk, by simpa using h⟩
theorem ay4 {op : Int} (h : ¬ (1 ≤ op ∧ op ≤ 13)) : I5 op = [] := by
 unfold I5
 repeat (rw [if_neg (by omega)])
theorem bl3 {op : Int} (h : 1 ≤ op ∧ op ≤ 13) : (I5 op).length = 4 := by
 have h' : op = 1 ∨ op = 2 ∨ op = 3 ∨ op = 4 ∨ op = 5 ∨ op = 6 ∨ op = 7 ∨ op = 8 ∨ op = 9 ∨ op = 10 ∨ op = 11 ∨ op = 12 ∨ op = 13 := by omega
 rcases h' with rfl | rfl | rfl | rfl | rfl | rfl | rfl | rfl | rfl | rfl | rfl | rfl | rfl <;> rfl
theorem aS8 (c : d7) (x : c7) (h : 1 ≤ x.op ∧ x.op ≤ 13) : y8 c x = ar1 c (I5 x.op) [x.a, x.b, x.c, x.d] 4 := by
 have e : ar1 c (I5 x.op) [x.a, x.b, x.c, x.d] 4 = (G3 c ((I5 x.op).getD 0 0) x.a && G3 c ((I5 x.op).getD 1 0) x.b && G3 c ((I5 x.op).getD 2 0) x.c && G3 c ((I5 x.op).getD 3 0) x.d) := by
  show ar1 c _ _ (0 + 1 + 1 + 1 + 1) = _
  simp only [az2]
  simp [ar1]
 rw [e]
 unfold y8
 rw [decide_eq_true h.1, decide_eq_true h.2]
 have h' : x.op = 1 ∨ x.op = 2 ∨ x.op = 3 ∨ x.op = 4 ∨ x.op = 5 ∨ x.op = 6 ∨ x.op = 7 ∨ x.op = 8 ∨ x.op = 9 ∨ x.op = 10 ∨ x.op = 11 ∨ x.op = 12 ∨ x.op = 13 := by omega
 rcases h' with h' | h' | h' | h' | h' | h' | h' | h' | h' | h' | h' | h' | h' <;>
 ·rw [h', bT5]
  simp [e6, I5, C3, J9, G3]
  try omega
def C6 (x : c7) : Int := if x.op = 8 then x.a else if x.op = 9 ∨ x.op = 10 then x.b else -1
def J2 (x : c7) (i : Int) : List Int := if x.op = 13 then [] else if x.op = 8 then [x.a] else if x.op = 9 ∨ x.op = 10 then [i + 1, x.b] else [i + 1]
def U2 (x : c7) (i : Int) : List Int := (if 0 ≤ C6 x then [C6 x] else []) ++ (if x.op ≠ 8 ∧ x.op ≠ 13 then [i + 1] else [])
def nx (c : d7) (t : Int) : List Int := match c.list[t.toNat]? with | some x => J2 x t | none => []
theorem aZ6 {c : d7} {t : Int} (h : t.toNat < c.list.length) : nx c t = J2 c.list[t.toNat] t := by simp [nx, h]
theorem x6 {c : d7} (h : f8 c = true) : D4 c.vars c.arrays = true ∧ 1 ≤ c.list.length ∧ c.list.length ≤ 400 ∧ (∀ (i : Nat) (hi : i < c.list.length), y8 c c.list[i] = true) ∧ V3 c = true := by
 unfold f8 at h
 simp only [bR6, decide_eq_true_eq, bS2] at h
 obtain ⟨⟨⟨⟨h1, h2⟩, h3⟩, h4⟩, h5⟩ := h
 exact ⟨h1, h2, h3, fun i hi => h4 _ (bS9 hi), h5⟩
theorem a91 {c : d7} {x : c7} (h : y8 c x = true) (ho : x.op = 8 ∨ x.op = 9 ∨ x.op = 10) : 0 ≤ C6 x ∧ C6 x < c.list.length := by
 unfold y8 at h
 simp only [bR6, decide_eq_true_eq] at h
 obtain ⟨_, ⟨⟨ha, hb⟩, _⟩, _⟩ := h
 rcases ho with ho | ho | ho
 ·rw [ho] at ha
  simp [e6, C3, J9] at ha
  simp [C6, ho]; omega
 ·rw [ho] at hb
  simp [e6, C3, J9] at hb
  simp [C6, ho]; omega
 ·rw [ho] at hb
  simp [e6, C3, J9] at hb
  simp [C6, ho]; omega
theorem bp3 {c : d7} (h : f8 c = true) (i : Nat) (hi : i < c.list.length) (h1 : c.list[i].op ≠ 13) (h2 : c.list[i].op ≠ 8) : i + 1 < c.list.length := by
 obtain ⟨_, hn, _, _, hl⟩ := x6 h
 rcases bT8 (i + 1) c.list.length with hlt | hge
 ·exact hlt
 ·exfalso
  unfold V3 at hl
  rw [List.getLast?_eq_getElem?, show c.list.length - 1 = i by omega, bo2 hi] at hl
  simp at hl
  omega
theorem aK6 {c : d7} (h : f8 c = true) {i t : Int} (hi : 0 ≤ i) (ht : t ∈ nx c i) : 0 ≤ t ∧ t < c.list.length := by
 by_cases hlt : i.toNat < c.list.length
 ·rw [aZ6 hlt] at ht
  have ho := (x6 h).2.2.2.1 _ hlt
  have hl := bp3 h _ hlt
  have hk := a91 ho
  unfold J2 at ht
  unfold C6 at hk
  generalize c.list[i.toNat] = x at *
  by_cases h13 : x.op = 13
  ·simp [h13] at ht
  ·by_cases h8 : x.op = 8
   ·simp [h8] at ht hk
    omega
   ·have := hl h13 h8
    by_cases h9 : x.op = 9 ∨ x.op = 10
    ·simp only [if_neg h13, if_neg h8, if_pos h9, bU2, List.not_mem_nil, or_false] at ht hk
     rcases ht with rfl | rfl
     ·omega
     ·exact hk (.inr h9)
    ·simp only [if_neg h13, if_neg h8, if_neg h9, bU2, List.not_mem_nil, or_false] at ht
     omega
 ·unfold nx at ht
  rw [bT2 (by omega)] at ht
  simp at ht
theorem a42 {c : d7} {x : c7} (h : y8 c x = true) (i t : Int) : t ∈ U2 x i ↔ t ∈ J2 x i := by
 have hk := a91 h
 unfold U2 J2
 by_cases h13 : x.op = 13
 ·simp [h13, C6]
 ·by_cases h8 : x.op = 8
  ·have hh := hk (.inl h8)
   simp [h8, C6] at hh ⊢
   omega
  ·by_cases h9 : x.op = 9 ∨ x.op = 10
   ·have hh := hk (.inr h9)
    have e : C6 x = x.b := by simp [C6, h8, h9]
    rw [e] at hh ⊢
    simp only [if_neg h13, if_neg h8, if_pos h9, if_pos hh.1, if_pos (show x.op ≠ 8 ∧ x.op ≠ 13 from ⟨h8, h13⟩)]
    simp [Or.comm]
   ·have e : C6 x = -1 := by simp [C6, h8, h9]
    rw [e]
    simp [h13, h8, h9]
theorem a43 (x : c7) (i : Int) : (U2 x i).length ≤ 2 := by
 unfold U2; rw [bR8]; split <;> split <;> simp
inductive Rc (c : d7) : Int → Prop
 | zero : Rc c 0
 | step {i t : Int} : Rc c i → t ∈ nx c i → Rc c t
noncomputable def E4 (c : d7) : List Bool := (bS8 c.list.length).map fun (j : Nat) => @decide (Rc c (j : Int)) (Classical.propDecidable _)
theorem Rc.nonneg {c : d7} (h : f8 c = true) {t : Int} (hr : Rc c t) : 0 ≤ t := by
 induction hr with
 | zero => omega
 | step _ ht ih => exact (aK6 h ih ht).1
theorem aq8 {c : d7} (hc : f8 c = true) {bs : List Bool} (hl : bs.length = c.list.length) (hs : ∀ j : Nat, bs[j]? = some true → Rc c j) (h0 : bs[0]? = some true)
  (hcl : ∀ j : Nat, bs[j]? = some true → ∀ t ∈ nx c j, bs[t.toNat]? = some true) : bs = E4 c := by
 have key : ∀ t : Int, Rc c t → bs[t.toNat]? = some true := by
  intro t ht
  induction ht with
  | zero => exact h0
  | @step i t hi ht ih =>
   have hn := Rc.nonneg hc hi
   exact hcl i.toNat ih t (by rw [show ((i.toNat : Nat) : Int) = i by omega]; exact ht)
 apply List.ext_getElem
 ·simp [E4, hl]
 ·intro j h1 h2
  have e : (E4 c)[j] = @decide (Rc c (j : Int)) (Classical.propDecidable _) := by simp [E4]
  rw [e]
  by_cases hr : Rc c (j : Int)
  ·have := key _ hr
   rw [Int.toNat_natCast, bo2 h1] at this
   simp only [Option.some.injEq] at this
   rw [this]; simp [hr]
  ·cases hb : bs[j]
   ·simp [hr]
   ·exact absurd (hs j (by rw [bo2 h1, hb])) hr
theorem U3 {bs : List Bool} {k : Nat} (h : bs[k]? = some false) : (bs.set k true).count false + 1 = bs.count false := by
 induction bs generalizing k with
 | nil => simp at h
 | cons b r ih =>
  cases k with
  | zero => simp at h; subst h; simp
  | succ k =>
   simp at h
   have := ih h
   simp only [List.set_cons_succ, List.count_cons]
   omega
theorem Y3 {bs : List Bool} {k j : Nat} (h : bs[j]? = some true) : (bs.set k true)[j]? = some true := by
 rw [List.getElem?_set]
 split
 ·rename_i e; subst e
  have := (bS0.1 h).1
  simp [this]
 ·exact h
theorem J8 {bs : List Bool} {k j : Nat} (h : (bs.set k true)[j]? = some true) : j = k ∨ bs[j]? = some true := by
 rw [List.getElem?_set] at h
 split at h
 ·rename_i e; exact .inl e.symm
 ·exact .inr h
theorem R9 {bs : List Bool} {k : Nat} (h : k < bs.length) : (bs.set k true)[k]? = some true := by simp [h]
structure aF8 (c : d7) (qs : List Int) (bs : List Bool) : Prop where
 len : bs.length = c.list.length
 cnt : qs.length + bs.count false = c.list.length
 q : ∀ t ∈ qs, 0 ≤ t ∧ t < c.list.length ∧ Rc c t
 sound : ∀ j : Nat, bs[j]? = some true → Rc c j
 inq : ∀ j : Nat, bs[j]? = some true → (j : Int) ∈ qs
 zero : bs[0]? = some true
theorem aF8.start {c : d7} (hc : f8 c = true) : aF8 c [0] ((a04 c.list.length false).set 0 true) := by
 have hn := (x6 hc).2.1
 have hone : ∀ j : Nat, ((a04 c.list.length false).set 0 true)[j]? = some true → j = 0 := by
  intro j h
  rcases J8 h with h | h
  ·exact h
  ·rw [List.getElem?_replicate] at h; split at h <;> simp at h
 refine ⟨by simp, ?_, ?_, ?_, ?_, ?_⟩
 ·have := U3 (bs := a04 c.list.length false) (k := 0) (by rw [List.getElem?_replicate, if_pos (by omega)])
  simp at this ⊢
  omega
 ·intro t ht
  simp at ht; subst ht
  exact ⟨by omega, by omega, .zero⟩
 ·intro j h; rw [hone j h]; exact .zero
 ·intro j h; rw [hone j h]; simp
 ·exact R9 (by simp; omega)
theorem aF8.push {c : d7} {qs : List Int} {bs : List Bool} (h : aF8 c qs bs) {t : Int} (h0 : 0 ≤ t) (h1 : t < c.list.length) (hr : Rc c t) (hb : bs[t.toNat]? = some false) :
  aF8 c (qs ++ [t]) (bs.set t.toNat true) := by
 refine ⟨by simp [h.len], ?_, ?_, ?_, ?_, Y3 h.zero⟩
 ·have := U3 hb
  have := h.cnt
  simp; omega
 ·intro u hu
  rcases bS7.1 hu with hu | hu
  ·exact h.q u hu
  ·simp at hu; subst hu; exact ⟨h0, h1, hr⟩
 ·intro j hj
  rcases J8 hj with rfl | hj
  ·rw [show ((t.toNat : Nat) : Int) = t by omega]; exact hr
  ·exact h.sound j hj
 ·intro j hj
  rcases J8 hj with rfl | hj
  ·simp; right; omega
  ·exact List.mem_append_left _ (h.inq j hj)
def W0 (c : d7) (qs : List Int) (bs : List Bool) (i : Nat) : Prop := ∀ (m : Nat) (u : Int), m < i → qs[m]? = some u → ∀ t ∈ nx c u, bs[t.toNat]? = some true
theorem W0.push {c : d7} {qs : List Int} {bs : List Bool} {i : Nat} (h : W0 c qs bs i) (hi : i ≤ qs.length) (t : Int) (k : Nat) : W0 c (qs ++ [t]) (bs.set k true) i :=
 fun m u hm hu x hx => Y3 (h m u hm (by rwa [bT3 (by omega)] at hu) x hx)
theorem W0.done {c : d7} (hc : f8 c = true) {qs : List Int} {bs : List Bool} (h : aF8 c qs bs) (hcl : W0 c qs bs qs.length) : bs = E4 c := by
 refine aq8 hc h.len h.sound h.zero fun j hj t ht => ?_
 obtain ⟨m, hm, he⟩ := List.getElem_of_mem (h.inq j hj)
 exact hcl m j hm (by rw [bo2 hm, he]) t ht
structure an3 (c : d7) (ls : List Int) (bs : List Bool) : Prop where
 len : bs.length = c.list.length
 cnt : ls.length + 2 * bs.count false ≤ 2 * c.list.length + 1
 l : ∀ t ∈ ls, 0 ≤ t ∧ t < c.list.length ∧ Rc c t
 sound : ∀ j : Nat, bs[j]? = some true → Rc c j
 zero : bs[0]? = some true ∨ (0 : Int) ∈ ls
 clos : ∀ j : Nat, bs[j]? = some true → ∀ t ∈ nx c j, bs[t.toNat]? = some true ∨ t ∈ ls
theorem an3.start {c : d7} (hc : f8 c = true) : an3 c [0] (a04 c.list.length false) := by
 have hn := (x6 hc).2.1
 refine ⟨by simp, by simp; omega, ?_, ?_, .inr (by simp), ?_⟩
 ·intro t ht
  simp at ht; subst ht
  exact ⟨by omega, by omega, .zero⟩
 ·intro j h; rw [List.getElem?_replicate] at h; split at h <;> simp at h
 ·intro j h; rw [List.getElem?_replicate] at h; split at h <;> simp at h
theorem an3.skip {c : d7} {ls : List Int} {i : Int} {bs : List Bool} (h : an3 c (ls ++ [i]) bs) (hb : bs[i.toNat]? = some true) : an3 c ls bs := by
 refine ⟨h.len, by have := h.cnt; simp at this; omega, fun t ht => h.l t (List.mem_append_left _ ht), h.sound, ?_, ?_⟩
 ·rcases h.zero with h0 | h0
  ·exact .inl h0
  ·rcases bS7.1 h0 with h0 | h0
   ·exact .inr h0
   ·simp at h0; subst h0; exact .inl hb
 ·intro j hj t ht
  rcases h.clos j hj t ht with h1 | h1
  ·exact .inl h1
  ·rcases bS7.1 h1 with h1 | h1
   ·exact .inr h1
   ·simp at h1; subst h1; exact .inl hb
theorem an3.mark {c : d7} (hc : f8 c = true) {ls : List Int} {i : Int} {bs : List Bool} (h : an3 c (ls ++ [i]) bs) (hb : bs[i.toNat]? = some false) {news : List Int} (hl : news.length ≤ 2) (hm : ∀ t, t ∈ news ↔ t ∈ nx c i) :
  an3 c (ls ++ news) (bs.set i.toNat true) := by
 have hi := h.l i (by simp)
 have hlt : i.toNat < bs.length := (bS0.1 hb).1
 refine ⟨by simp [h.len], ?_, ?_, ?_, ?_, ?_⟩
 ·have := U3 hb
  have := h.cnt
  simp at this ⊢; omega
 ·intro t ht
  rcases bS7.1 ht with ht | ht
  ·exact h.l t (List.mem_append_left _ ht)
  ·have hx := (hm t).1 ht
   exact ⟨(aK6 hc hi.1 hx).1, (aK6 hc hi.1 hx).2, .step hi.2.2 hx⟩
 ·intro j hj
  rcases J8 hj with rfl | hj
  ·rw [show ((i.toNat : Nat) : Int) = i by omega]; exact hi.2.2
  ·exact h.sound j hj
 ·rcases h.zero with h0 | h0
  ·exact .inl (Y3 h0)
  ·rcases bS7.1 h0 with h0 | h0
   ·exact .inr (List.mem_append_left _ h0)
   ·simp at h0; subst h0; exact .inl (R9 hlt)
 ·intro j hj t ht
  rcases J8 hj with rfl | hj
  ·rw [show ((i.toNat : Nat) : Int) = i by omega] at ht
   exact .inr (List.mem_append_right _ ((hm t).2 ht))
  ·rcases h.clos j hj t ht with h1 | h1
   ·exact .inl (Y3 h1)
   ·rcases bS7.1 h1 with h1 | h1
    ·exact .inr (List.mem_append_left _ h1)
    ·simp at h1; subst h1; exact .inl (R9 hlt)
theorem an3.done {c : d7} (hc : f8 c = true) {bs : List Bool} (h : an3 c [] bs) : bs = E4 c := by
 refine aq8 hc h.len h.sound ?_ fun j hj t ht => ?_
 ·rcases h.zero with h0 | h0
  ·exact h0
  ·simp at h0
 ·rcases h.clos j hj t ht with h1 | h1
  ·exact h1
  ·simp at h1
end Go.Proofs.Ytmokkddidcmglaa

namespace Go.Proofs.Ytmokkddidcmglaa
open Go Go.RowKit
section
variable {P : Program} {md : Region.Mode} {C : World → Prop}
theorem ah1 {listed : Array Bool} {i : Nat} (h : listed.getD i true = false) : (listed.setIfInBounds i true).toList.count false + 1 = listed.toList.count false := by
 rw [Array.toList_setIfInBounds]
 refine U3 ?_
 rcases bT8 i listed.size with h' | h'
 ·simp [h'] at h ⊢; exact h
 ·simp [Array.getElem?_eq_none h'] at h
end
abbrev ints (l : List Int) : List Value := l.map (Value.int .i64)
theorem as8 (l : List Int) (k : Nat) (h : k < l.length) : (ints l)[k]? = some (.int .i64 l[k]) := by simp [ints, h]
theorem az5 : (Try.prog.info? 3).map (fun i => (i.zero, i.size, i.bytes)) = some (some (.int .i64 0), 1, 8) := by kernel_rfl
def aS4 (K n : Nat) : List Int := (bS8 n).map fun (j : Nat) => ((K : Int) + (j : Int))
abbrev aj9 (w : World) (v : Value) (l : List c7) : Prop := H4 w v l.length 5 (ints (ab1 l))
theorem H4.ins {w : World} {v : Value} {l : List c7} (h : aj9 w v l) : ∃ a cap, v = .slice a l.length cap ∧ l.length ≤ cap ∧ l.length ≤ 9223372036854775807 ∧ cap ≤ 9223372036854775807 ∧
  ∀ i (hi : i < l.length), ∃ b off, a = some ⟨b, off, none⟩ ∧ b < w.heap.size ∧ w.cell? ⟨b, off + i * 5, none⟩ = some (.int .i64 l[i].op) ∧ w.cell? ⟨b, off + i * 5 + 1, none⟩ = some (.int .i64 l[i].a) ∧
   w.cell? ⟨b, off + i * 5 + 2, none⟩ = some (.int .i64 l[i].b) ∧ w.cell? ⟨b, off + i * 5 + 3, none⟩ = some (.int .i64 l[i].c) ∧ w.cell? ⟨b, off + i * 5 + 4, none⟩ = some (.int .i64 l[i].d) := by
 obtain ⟨a, cap, h0, h1, h2, h3, h4⟩ := h.open
 refine ⟨a, cap, h0, h1, h2, h3, fun i hi => ?_⟩
 obtain ⟨b, off, e, hb, hc⟩ := h4 i hi
 obtain ⟨g0, g1, g2, g3, g4⟩ := aL4 l i hi
 have c0 := hc 0 (by omega)
 have c1 := hc 1 (by omega)
 have c2 := hc 2 (by omega)
 have c3 := hc 3 (by omega)
 have c4 := hc 4 (by omega)
 simp only [Nat.add_zero, List.getElem?_map, g0, g1, g2, g3, g4, Option.map_some] at c0 c1 c2 c3 c4
 exact ⟨b, off, e, hb, c0, c1, c2, c3, c4⟩
abbrev c7.v (x : c7) : Value := .agg #[.int .i64 x.op, .int .i64 x.a, .int .i64 x.b, .int .i64 x.c, .int .i64 x.d]
def z6 (w : World) (v : Value) (c : d7) : Prop :=
 ∃ v1 v2 v3, v = .agg #[v1, v2, v3] ∧ H4 w v1 c.vars.length 1 (ints c.vars) ∧ H4 w v2 c.arrays.length 1 (ints c.arrays) ∧ aj9 w v3 c.list
def K5 (w : World) (lo hi : Nat) (v : Value) (c : d7) : Prop :=
 ∃ v1 v2 v3, v = .agg #[v1, v2, v3] ∧ A9 w lo hi 3 1 v1 c.vars.length (ints c.vars) ∧ A9 w lo hi 3 1 v2 c.arrays.length (ints c.arrays) ∧ A9 w lo hi 122 5 v3 c.list.length (ints (ab1 c.list)) ∧
  ah7 v1 v2 ∧ ah7 v1 v3 ∧ ah7 v2 v3
theorem z6.below {w w' : World} {v : Value} {c : d7} (h : z6 w v c) (hb : Below w.heap.size w w') : z6 w' v c := by
 obtain ⟨v1, v2, v3, rfl, h1, h2, h3⟩ := h
 exact ⟨v1, v2, v3, rfl, h1.below hb, h2.below hb, h3.below hb⟩
theorem K5.row {w : World} {lo hi : Nat} {v : Value} {c : d7} (h : K5 w lo hi v c) : z6 w v c := by
 obtain ⟨v1, v2, v3, rfl, h1, h2, h3, _⟩ := h
 exact ⟨v1, v2, v3, rfl, h1.row, h2.row, h3.row⟩
theorem K5.keep {w w' : World} {lo hi B : Nat} {v : Value} {c : d7} (h : K5 w lo hi v c) (hb : Below B w w') (hB : hi ≤ B) : K5 w' lo hi v c := by
 obtain ⟨v1, v2, v3, rfl, h1, h2, h3, hd⟩ := h
 exact ⟨v1, v2, v3, rfl, h1.keep hb hB, h2.keep hb hB, h3.keep hb hB, hd⟩
theorem K5.out {w w' : World} {lo hi lo' hi' : Nat} {v : Value} {c : d7} (h : K5 w lo hi v c) (hb : Out lo' hi' w w') (hB : hi ≤ lo' ∨ hi' ≤ lo) : K5 w' lo hi v c := by
 obtain ⟨v1, v2, v3, rfl, h1, h2, h3, hd⟩ := h
 exact ⟨v1, v2, v3, rfl, h1.out hb hB, h2.out hb hB, h3.out hb hB, hd⟩
theorem K5.wide {w : World} {lo hi lo' hi' : Nat} {v : Value} {c : d7} (h : K5 w lo hi v c) (h1 : lo' ≤ lo) (h2 : hi ≤ hi') : K5 w lo' hi' v c := by
 obtain ⟨v1, v2, v3, rfl, g1, g2, g3, hd⟩ := h
 exact ⟨v1, v2, v3, rfl, g1.wide h1 h2, g2.wide h1 h2, g3.wide h1 h2, hd⟩
def ak0 (w : World) (v : Value) (K nv na nl : Nat) : Prop :=
 ∃ v1 v2 v3, v = .agg #[v1, v2, v3] ∧ H4 w v1 nv 1 (ints (aS4 K nv)) ∧ H4 w v2 na 1 (ints (aS4 (K + nv) na)) ∧ H4 w v3 nl 5 (ints (aS4 (K + nv + na) (nl * 5)))
theorem ak0.below {w w' : World} {v : Value} {K nv na nl : Nat} (h : ak0 w v K nv na nl) (hb : Below w.heap.size w w') : ak0 w' v K nv na nl := by
 obtain ⟨v1, v2, v3, rfl, h1, h2, h3⟩ := h
 exact ⟨v1, v2, v3, rfl, h1.below hb, h2.below hb, h3.below hb⟩
theorem aL1 {l : List Int} : ∀ u ∈ ints l, u.oneCell' = true := by
 intro u hu
 obtain ⟨x, _, rfl⟩ := List.mem_map.1 hu
 rfl
theorem aJ4 {P : Program} {w : World} {lo : Nat} {t ty e : TypeId} {i : TypeInfo} {size : Nat} (ht : P.underlying t = some (.slice e)) (hi : P.info? e = some i)
  {v : Value} {n : Nat} {xs : List Value} (hown : w.ownsRow lo e size v n xs) (c : Nat) : (Builtin.append_ #[t, t] ty #[v, .slice none 0 c]).run P w = .ok v w := by
 obtain ⟨_, h⟩ := hown
 rcases h with ⟨rfl, rfl⟩ | ⟨g, cap, cur, rfl, _, _, hnc, _⟩
 ·simp [Builtin.append_, run_underlying ht, sizeOf, typeInfo, hi, Builtin.lenOf, Builtin.firstCells]
 ·simp [Builtin.append_, run_underlying ht, sizeOf, typeInfo, hi, Builtin.lenOf, Builtin.firstCells, hnc, storeCells]
theorem az3 {w : World} {lo : Nat} {e : TypeId} {sz : Nat} {v : Value} {n : Nat} {xs : List Value} (h : w.ownsRow lo e sz v n xs) : ∃ a k, v = .slice a n k := by
 rcases h.2 with ⟨rfl, rfl⟩ | ⟨g, cap, cur, rfl, _⟩
 ·exact ⟨_, _, rfl⟩
 ·exact ⟨_, _, rfl⟩
theorem af9 {P : Program} {w : World} {lo : Nat} {t ty e : TypeId} {z : Value} {size bytes : Nat} (ht : P.underlying t = some (.slice e)) (hi : (P.info? e).map (fun i => (i.zero, i.size, i.bytes)) = some (some z, size, bytes))
  (hzs : z.cells.size = size) (hsz : 0 < size) {v : Value} {n : Nat} {xs : List Value} (hown : w.ownsRow lo e size v n xs) {u : Value} {m : Nat} {news : List Value} (hr : H4 w u m size news) (h1 : ∀ u ∈ news, u.oneCell' = true)
  (h63 : n + m ≤ 9223372036854775807) (hbytes : (n + m) * bytes ≤ 140737488355328) (hbase : lo ≤ w.heap.size) :
  ∃ a' k' w', (Builtin.append_ #[t, t] ty #[v, u]).run P w = .ok (.slice a' (n + m) k') w' ∧ w'.ownsRow lo e size (.slice a' (n + m) k') (n + m) (xs ++ news) ∧ Below lo w w' ∧ w.grownBy w' v.ownBlock ∧ (∀ g, (Value.slice a' (n + m) k').ownBlock = some g → v.ownBlock = some g ∨ w.heap.size ≤ g) := by
 obtain ⟨i, g1, g2, g3, g4⟩ := info_parts hi
 obtain ⟨hl, A, c, rfl, hmc, hc, hA⟩ := hr
 have below_of : ∀ {w' : World}, w.grownBy w' v.ownBlock → Below lo w w' := fun {w'} hg => by
  refine ⟨hg.os, hg.tape, hg.output, hg.size, fun k hk => hg.block k (by omega) fun he => ?_⟩
  have := hown.lt k he.symm
  omega
 rcases A with _ | a
 ·have hm : m = 0 := by
   rcases Nat.eq_zero_or_pos m with h0 | h0
   ·exact h0
   ·obtain ⟨_, _, he, _⟩ := hA h0; cases he
  subst hm
  have hn : news = [] := bU3 (by simpa using hl)
  subst hn
  obtain ⟨a', k', rfl⟩ := az3 hown
  exact ⟨a', k', w, aJ4 ht g1 hown c, by simpa using hown, Below.refl _ _, ⟨rfl, rfl, rfl, bS5 _, fun _ _ _ => rfl⟩, fun g hg => .inl hg⟩
 ·have hcells : ∀ j u, news[j]? = some u → w.cell? (a.add j) = some u := by
   intro j u hu
   have h0 : 0 < m := by
    rcases Nat.eq_zero_or_pos m with h0 | h0
    ·subst h0
     have hn : news = [] := bU3 (by simpa using hl)
     subst hn; simp at hu
    ·exact h0
   obtain ⟨b, off, he, hb, hx⟩ := hA h0
   cases he
   have hadd : (⟨b, off, none⟩ : Addr).add j = ⟨b, off + j, none⟩ := by unfold Addr.add; split <;> simp_all
   rw [hadd]
   exact hx j u hu
  obtain ⟨v', w', hrun, h2, h3, _, h5⟩ := run_append_own_at (P := P) w lo t ty e i z size bytes ht g1 g2 g3 g4 hzs hsz v n xs hown a m c news hl hcells h1 (by unfold maxLen; omega) hbytes hbase
  obtain ⟨a', k', rfl⟩ := az3 h2
  exact ⟨a', k', w', hrun, h2, below_of h3, h3, fun g hg => h5.elim (fun h => .inl (h ▸ hg)) fun h => .inr (by rw [h] at hg; cases hg; exact bS5 _)⟩
theorem I4 {P : Program} {w : World} {ops : Array Oper} {rest : List Oper} {o : Oper} {a : Act} {Q : Exit → Act → World → Prop} {lo : Nat} {t e : TypeId} {z : Value} {size bytes : Nat} {v : Value} {n : Nat} {xs : List Value} {u : Value} {m : Nat} {news : List Value}
  (hgd : o.guard = none) (s x : Operand) (ho : o.op = .call { callee := .builtin .append, args := #[s, x], argTypes := #[t, t] })
  (ht : P.underlying t = some (.slice e)) (hi : (P.info? e).map (fun i => (i.zero, i.size, i.bytes)) = some (some z, size, bytes))
  (hzs : z.cells.size = size) (hsz : 0 < size) (hs : a.eval s = v) (hown : w.ownsRow lo e size v n xs) (hx : a.eval x = u) (hr : H4 w u m size news) (h1 : ∀ u ∈ news, u.oneCell' = true)
  (h63 : n + m ≤ 9223372036854775807) (hbytes : (n + m) * bytes ≤ 140737488355328) (hbase : lo ≤ w.heap.size)
  (h : ∀ a' k' w', w'.ownsRow lo e size (.slice a' (n + m) k') (n + m) (xs ++ news) → Below lo w w' → w.grownBy w' v.ownBlock → (∀ g, (Value.slice a' (n + m) k').ownBlock = some g → v.ownBlock = some g ∨ w.heap.size ≤ g) → wpList P ops Q rest (a.put o.dst (.slice a' (n + m) k')) w') : wpList P ops Q (o :: rest) a w := by
 refine wpList_plain hgd fun K hK => ?_
 obtain ⟨a', k', w', hrun, h2, h3, h4, h5⟩ := af9 (ty := o.type) ht hi hzs hsz hown hr h1 h63 hbytes hbase
 unfold Oper.wp execOp
 simp only [ho, resolve, invoke, builtin, Sem.run_bind, Sem.run_pure, Result.andThen_ok, List.map_toArray, bU0, List.map_nil, hs, hx, hrun]
 exact hK _ _ (h a' k' w' h2 h3 h4 h5)
theorem A9.grown {w w' : World} {lo hi : Nat} {e : TypeId} {sz : Nat} {v : Value} {n : Nat} {xs : List Value} {row : Option Nat} (h : A9 w lo hi e sz v n xs) (hg : w.grownBy w' row) (hne : ∀ g, v.ownBlock = some g → row ≠ some g) : A9 w' lo hi e sz v n xs :=
 h.same fun g hv => hg.block g (h.lt g hv).2.2 fun he => hne g hv he.symm
theorem bn0 (w : World) (u : Value) (T : TypeId) : H4 (w.alloc (.cells #[u] T)) (.slice (some ⟨w.heap.size, 0, none⟩) 1 1) 1 1 [u] := by
 refine ⟨rfl, _, _, rfl, bS5 _, by unfold maxLen; omega, fun _ => ⟨_, _, rfl, by simp, fun j x hj => ?_⟩⟩
 match j, hj with
 | 0, hj =>
  simp at hj
  subst hj
  simp
theorem ag0 (w : World) (u : Value) (T : TypeId) {g : Nat} (hg : g = w.heap.size) : H4 (w.alloc (.cells #[u] T)) (.slice (some ⟨g, 0, none⟩) 1 1) 1 1 [u] := by
 subst hg; exact bn0 w u T
theorem bd4 {w : World} {lo : Nat} {e : TypeId} {sz : Nat} {a : Option Addr} {n k cap : Nat} {xs ys : List Value} (h : w.ownsRow lo e sz (.slice a n cap) n (xs ++ ys)) (hk : k ≤ n) (hn : 0 < n) (hx : xs.length = k * sz) : w.ownsRow lo e sz (.slice a k cap) k xs := by
 refine ⟨hx, ?_⟩
 rcases h.2 with ⟨_, h0⟩ | ⟨g, cap', cur, hv, hbg, hg, hnc, hcm, hcs, ht⟩
 ·omega
 ·cases hv
  refine .inr ⟨g, cap, cur, rfl, hbg, hg, by omega, hcm, hcs, ?_⟩
  have := congrArg (bS3 (k * sz)) ht
  rw [List.take_take, Nat.min_eq_left (bU6 _ hk)] at this
  rw [this]
  exact List.take_left' hx
section
variable {P : Program}
theorem a23 {x : Oper} {a : Act} {w : World} {K : Act → World → Prop} {Q Q0 : Exit → Act → World → Prop} (h0 : ∀ e a w, Q0 e a w → e = .normal) (h : x.wp P a w K Q0) : x.wp P a w K Q := by
 unfold Oper.wp at *
 generalize (execOp a.eval x).run P w = r at *
 cases r with
 | ok n w' =>
  cases n <;> simp only [Oper.upon] at h ⊢ <;>
   first
    | exact h
    | exact Calls.mono h (fun e w'' he => by
      cases e
      ·exact he
      ·exact absurd (h0 _ _ _ he) (by simp)
      ·obtain ⟨a, w, hq⟩ := he; exact absurd (h0 _ _ _ hq) (by simp))
 | halt y w' =>
  cases y <;> simp only [Oper.upon] at h ⊢ <;> first | exact h | exact absurd (h0 _ _ _ h) (by simp)
end
section
variable {P : Program}
structure bR5 (mk : (Nat → Value) → Act) (C : World → Prop) (R : Nat → Value → World → Prop) (n : Nat) (listed : Array Bool) (f : Nat → Value) (a : Act) (w : World) : Prop where
 act : a = mk f
 cls : C w
 val : ∀ i, i < n → listed.getD i false = true → R i (f i) w
end
def Agr (φ φ' : Nat → Prop) (w w' : World) : Prop := w.heap.size ≤ w'.heap.size ∧ ∀ b, b < w.heap.size → φ b → φ' b ∧ w'.heap[b]? = w.heap[b]?
def V9 (R : World → (Nat → Prop) → Prop) : Prop := ∀ w w' φ φ', Agr φ φ' w w' → R w φ → R w' φ'
theorem Agr.below {φ : Nat → Prop} {w w' : World} (h : Below w.heap.size w w') : Agr φ φ w w' := ⟨h.size, fun b hb hf => ⟨hf, h.block b hb⟩⟩
theorem Agr.mono {φ φ' : Nat → Prop} {w : World} (h : ∀ b, b < w.heap.size → φ b → φ' b) : Agr φ φ' w w := ⟨bS5 _, fun b hb hf => ⟨h b hb hf, rfl⟩⟩
theorem Agr.cell {φ φ' : Nat → Prop} {w w' : World} (h : Agr φ φ' w w') {b o : Nat} (hb : b < w.heap.size) (hf : φ b) : w'.cell? ⟨b, o, none⟩ = w.cell? ⟨b, o, none⟩ := by
 simp only [World.cell?, (h.2 b hb hf).2]
def v6 (w : World) (φ : Nat → Prop) (v : Value) (n sz : Nat) (xs : List Value) : Prop :=
 xs.length = n * sz ∧ ∃ a cap, v = .slice a n cap ∧ n ≤ cap ∧ cap ≤ maxLen ∧
  (0 < n → ∃ b off, a = some ⟨b, off, none⟩ ∧ b < w.heap.size ∧ φ b ∧ ∀ j u, xs[j]? = some u → w.cell? ⟨b, off + j, none⟩ = some u)
theorem v6.nice (v : Value) (n sz : Nat) (xs : List Value) : V9 fun w φ => v6 w φ v n sz xs := by
 rintro w w' φ φ' ha ⟨hl, a, cap, rfl, h1, h2, h3⟩
 refine ⟨hl, a, cap, rfl, h1, h2, fun hn => ?_⟩
 obtain ⟨b, off, rfl, hb, hf, hc⟩ := h3 hn
 exact ⟨b, off, rfl, Nat.lt_of_lt_of_le hb ha.1, (ha.2 b hb hf).1, fun j u hj => (ha.cell hb hf).trans (hc j u hj)⟩
theorem v6.row {w : World} {φ : Nat → Prop} {v : Value} {n sz : Nat} {xs : List Value} (h : v6 w φ v n sz xs) : H4 w v n sz xs := by
 obtain ⟨hl, a, cap, rfl, h1, h2, h3⟩ := h
 refine ⟨hl, a, cap, rfl, h1, h2, fun hn => ?_⟩
 obtain ⟨b, off, rfl, hb, _, hc⟩ := h3 hn
 exact ⟨b, off, rfl, hb, hc⟩
theorem H4.rowF {w : World} {v : Value} {n sz : Nat} {xs : List Value} (h : H4 w v n sz xs) {φ : Nat → Prop} (hf : ∀ b, b < w.heap.size → φ b) : v6 w φ v n sz xs := by
 obtain ⟨hl, a, cap, rfl, h1, h2, h3⟩ := h
 refine ⟨hl, a, cap, rfl, h1, h2, fun hn => ?_⟩
 obtain ⟨b, off, rfl, hb, hc⟩ := h3 hn
 exact ⟨b, off, rfl, hb, hf b hb, hc⟩
theorem v6.nil (w : World) (φ : Nat → Prop) (sz : Nat) : v6 w φ (.slice none 0 0) 0 sz [] := ⟨by simp, none, 0, rfl, bS5 _, by unfold maxLen; omega, fun h => absurd h (by omega)⟩
theorem y5 {w : World} {lo : Nat} {e : TypeId} {sz : Nat} {v : Value} {n : Nat} {xs : List Value} (h : w.ownsRow lo e sz v n xs) {φ : Nat → Prop} (hf : ∀ g, v.ownBlock = some g → φ g) : v6 w φ v n sz xs := by
 obtain ⟨hl, a, cap, hv, h1, h2, h3⟩ := U1 h
 refine ⟨hl, a, cap, hv, h1, h2, fun hn => ?_⟩
 obtain ⟨b, off, he, hb, hc⟩ := h3 hn
 refine ⟨b, off, he, hb, ?_, hc⟩
 rcases h.2 with ⟨hv', h0⟩ | ⟨g, cap', cur, hv', _⟩
 ·omega
 ·rw [hv'] at hv
  cases hv
  cases he
  exact hf _ (by rw [hv']; rfl)
inductive X5 where
 | box (b : Nat) (cs : List Value)
 | row (e : TypeId) (sz : Nat) (v : Value) (n : Nat) (xs : List Value)
 | dat (R : World → (Nat → Prop) → Prop)
 | own (S : Nat → Prop) (R : World → Prop)
def X5.blk : X5 → Nat → Prop
 | .box b _ => fun g => g = b
 | .row _ _ v _ _ => fun g => v.ownBlock = some g
 | .dat _ => fun _ => False
 | .own S _ => S
def Fr (φ : Nat → Prop) (L : List X5) (b : Nat) : Prop := φ b ∧ ∀ r ∈ L, ¬ r.blk b
def X5.holds (w : World) (φ : Nat → Prop) : X5 → Prop
 | .box b cs => C2 w b cs
 | .row e sz v n xs => w.ownsRow 0 e sz v n xs
 | .dat R => V9 R ∧ R w φ
 | .own S R => (∀ w w', R w → (∀ b, S b → b < w.heap.size → w'.heap[b]? = w.heap[b]?) → R w') ∧ R w ∧ ∀ b, S b → b < w.heap.size
structure A3 (ψ : Nat → Prop) (w w' : World) : Prop where
 os : w'.os = w.os
 tape : w'.tape = w.tape
 output : w'.output = w.output
 size : w.heap.size ≤ w'.heap.size
 block : ∀ b, b < w.heap.size → ψ b → w'.heap[b]? = w.heap[b]?
theorem A3.refl (ψ : Nat → Prop) (w : World) : A3 ψ w w := ⟨rfl, rfl, rfl, bS5 _, fun _ _ _ => rfl⟩
theorem A3.trans {ψ : Nat → Prop} {a b c : World} (h : A3 ψ a b) (k : A3 ψ b c) : A3 ψ a c :=
 ⟨k.os.trans h.os, k.tape.trans h.tape, k.output.trans h.output, bT4 h.size k.size, fun i hi hp => (k.block i (Nat.lt_of_lt_of_le hi h.size) hp).trans (h.block i hi hp)⟩
theorem A3.of_below {ψ : Nat → Prop} {w w' : World} {B : Nat} (h : Below B w w') (hB : ∀ b, b < w.heap.size → ψ b → b < B) : A3 ψ w w' := ⟨h.os, h.tape, h.output, h.size, fun b hb hp => h.block b (hB b hb hp)⟩
theorem A3.below {w w' : World} {ψ : Nat → Prop} (h : A3 ψ w w') (hp : ∀ b, b < w.heap.size → ψ b) : Below w.heap.size w w' := ⟨h.os, h.tape, h.output, h.size, fun b hb => h.block b hb (hp b hb)⟩
structure H7 (φ ψ : Nat → Prop) (w0 w : World) (L : List X5) : Prop where
 kept : A3 ψ w0 w
 fresh : ∀ b, w0.heap.size ≤ b → φ b
 holds : ∀ (r : X5), r ∈ L → r.holds w (Fr φ L)
 dis : ∀ (i j : Nat) (a b : X5) (g : Nat), L[i]? = some a → L[j]? = some b → i ≠ j → a.blk g → ¬ b.blk g
 ge : ∀ (r : X5) (b : Nat), r ∈ L → r.blk b → w0.heap.size ≤ b ∨ ¬ ψ b
section
variable {φ ψ : Nat → Prop} {w0 w w' : World} {L : List X5}
theorem H7.start (hf : ∀ b, w0.heap.size ≤ b → φ b) : H7 φ ψ w0 w0 [] := ⟨A3.refl _ _, hf, (fun _ h => by cases h), (fun i j a b g h => by simp at h), (fun _ _ h => by cases h)⟩
theorem X5.lt {r : X5} (h : r.holds w φ) {b : Nat} (hb : r.blk b) : b < w.heap.size := by
 cases r with
 | box b' cs => cases hb; exact C2.lt h
 | row e sz v n xs => exact (World.ownsRow.lt h b hb).2
 | dat R => cases hb
 | own S R => exact h.2.2 b hb
theorem H7.lt (M : H7 φ ψ w0 w L) {r : X5} (hr : r ∈ L) {b : Nat} (hb : r.blk b) : b < w.heap.size := X5.lt (M.holds r hr) hb
theorem H7.size (M : H7 φ ψ w0 w L) : w0.heap.size ≤ w.heap.size := M.kept.size
theorem H7.below (M : H7 φ ψ w0 w L) (hp : ∀ b, b < w0.heap.size → ψ b) : Below w0.heap.size w0 w := M.kept.below hp
theorem X5.keep {φ' : Nat → Prop} {r : X5} (h : r.holds w φ) (ha : Agr φ φ' w w') (hb : ∀ b, r.blk b → w'.heap[b]? = w.heap[b]?) : r.holds w' φ' := by
 cases r with
 | box b cs => obtain ⟨T, h⟩ := h; exact ⟨T, (hb b rfl).trans h⟩
 | row e sz v n xs => exact (A9.same (lo := 0) (hi := w.heap.size) ⟨h, fun g hg => (World.ownsRow.lt h g hg).2⟩ hb).1
 | dat R => exact ⟨h.1, h.1 _ _ _ _ ha h.2⟩
 | own S R => exact ⟨h.1, h.1 _ _ h.2.1 fun b hs _ => hb b hs, fun b hs => Nat.lt_of_lt_of_le (h.2.2 b hs) ha.1⟩
theorem H7.call (M : H7 φ ψ w0 w L) (b : Below w.heap.size w w') : H7 φ ψ w0 w' L :=
 ⟨M.kept.trans (A3.of_below b fun _ h _ => h), M.fresh, fun r hr => X5.keep (M.holds r hr) (Agr.below b) fun g hg => b.block g (M.lt hr hg), M.dis, M.ge⟩
theorem H7.drew (M : H7 φ ψ w0 w L) : H7 φ ψ w0 w.drew L := M.call (Below.refl _ _).drew
theorem Fr.snoc {r : X5} {b : Nat} : Fr φ (L ++ [r]) b ↔ Fr φ L b ∧ ¬ r.blk b := by
 unfold Fr
 constructor
 ·rintro ⟨h1, h2⟩; exact ⟨⟨h1, fun x hx => h2 x (by simp [hx])⟩, h2 r (by simp)⟩
 ·rintro ⟨⟨h1, h2⟩, h3⟩
  refine ⟨h1, fun x hx => ?_⟩
  simp only [bS7, bU1] at hx
  rcases hx with hx | rfl
  ·exact h2 x hx
  ·exact h3
theorem H7.add (M : H7 φ ψ w0 w L) (b : Below w.heap.size w w') (r : X5) (h : r.holds w' (Fr φ (L ++ [r]))) (hg : ∀ g, r.blk g → w.heap.size ≤ g) : H7 φ ψ w0 w' (L ++ [r]) := by
 have M' := M.call b
 refine ⟨M'.kept, M.fresh, fun x hx => ?_, fun i j x y g hi hj hij hx hy => ?_, fun x g hx hxg => ?_⟩
 ·simp only [bS7, bU1] at hx
  rcases hx with hx | rfl
  ·exact X5.keep (M.holds x hx) ⟨b.size, fun c hc hf => ⟨Fr.snoc.2 ⟨hf, fun he => by have := hg c he; omega⟩, b.block c hc⟩⟩ fun g hgx => b.block g (M.lt hx hgx)
  ·exact h
 ·have lt : ∀ (k : Nat) (z : X5), (L ++ [r])[k]? = some z → (k < L.length ∧ L[k]? = some z) ∨ (k = L.length ∧ z = r) := by
   intro k z hz
   rcases bT8 k L.length with hk | hk
   ·rw [bT3 hk] at hz; exact .inl ⟨hk, hz⟩
   ·rw [List.getElem?_append_right hk] at hz
    have : k - L.length = 0 := by
     rcases Nat.eq_zero_or_pos (k - L.length) with h | h
     ·exact h
     ·rw [bT2 (by rw [List.length_singleton]; exact h)] at hz; cases hz
    rw [this] at hz; simp at hz
    exact .inr ⟨by omega, hz.symm⟩
  rcases lt i x hi with ⟨hi', h1⟩ | ⟨hi', rfl⟩ <;> rcases lt j y hj with ⟨hj', h2⟩ | ⟨hj', rfl⟩
  ·exact M.dis i j x y g h1 h2 hij hx hy
  ·have := M.lt (bT0 h1) hx; have := hg g hy; omega
  ·have := M.lt (bT0 h2) hy; have := hg g hx; omega
  ·omega
 ·simp only [bS7, bU1] at hx
  rcases hx with hx | rfl
  ·exact M.ge x g hx hxg
  ·exact .inl (bT4 M.size (hg g hxg))
theorem H7.box (M : H7 φ ψ w0 w L) (cs : List Value) (T : TypeId) : H7 φ ψ w0 (w.alloc (.cells cs.toArray T)) (L ++ [.box w.heap.size cs]) :=
 M.add ((Below.refl _ _).alloc (bS5 _) _) _ (C2.new w cs T) fun g hg => by cases hg; exact bS5 _
theorem H7.dat (M : H7 φ ψ w0 w L) {R : World → (Nat → Prop) → Prop} (hn : V9 R) (h : R w (Fr φ L)) : H7 φ ψ w0 w (L ++ [.dat R]) :=
 M.add (Below.refl _ _) _ ⟨hn, hn _ _ _ _ (Agr.mono fun b _ hf => Fr.snoc.2 ⟨hf, fun h => by cases h⟩) h⟩ fun g hg => by cases hg
theorem H7.nil (M : H7 φ ψ w0 w L) (e : TypeId) (sz : Nat) : H7 φ ψ w0 w (L ++ [.row e sz (.slice none 0 0) 0 []]) :=
 M.add (Below.refl _ _) _ (World.ownsRow_nil _ _ _ _) fun g hg => by cases hg
theorem Fr.set {r : X5} {i : Nat} {a : X5} (_hi : L[i]? = some a) {b : Nat} (h : Fr φ L b) (hr : ¬ r.blk b) : Fr φ (L.set i r) b :=
 ⟨h.1, fun x hx => by
  rcases List.mem_or_eq_of_mem_set hx with hx | rfl
  ·exact h.2 x hx
  ·exact hr⟩
theorem H7.put (M : H7 φ ψ w0 w L) {i : Nat} {a : X5} (hi : L[i]? = some a) (r : X5) (hk : A3 (fun b => ¬ a.blk b) w w') (h : r.holds w' (Fr φ (L.set i r))) (hg : ∀ g, r.blk g → a.blk g ∨ w.heap.size ≤ g) : H7 φ ψ w0 w' (L.set i r) := by
 have hil := (bS0.1 hi).1
 have ha := bT0 hi
 have get : ∀ (j : Nat) (z : X5), (L.set i r)[j]? = some z → (j ≠ i ∧ L[j]? = some z) ∨ (j = i ∧ z = r) := by
  intro j z hz
  by_cases e : j = i
  ·subst e; rw [List.getElem?_set_self hil] at hz; exact .inr ⟨rfl, (Option.some.inj hz).symm⟩
  ·rw [List.getElem?_set_ne (fun h => e h.symm)] at hz; exact .inl ⟨e, hz⟩
 refine ⟨⟨hk.os.trans M.kept.os, hk.tape.trans M.kept.tape, hk.output.trans M.kept.output, bT4 M.size hk.size, fun b hb hp => (hk.block b (Nat.lt_of_lt_of_le hb M.size) fun he => ?_).trans (M.kept.block b hb hp)⟩, M.fresh, fun x hx => ?_, fun j k x y g hj hk' hjk hx hy => ?_, fun x g hx hxg => ?_⟩
 ·rcases M.ge a b ha he with h' | h'
  ·omega
  ·exact h' hp
 ·obtain ⟨j, hj⟩ := List.mem_iff_getElem?.1 hx
  rcases get j x hj with ⟨hne, hj'⟩ | ⟨_, rfl⟩
  ·refine X5.keep (M.holds x (bT0 hj')) ⟨hk.size, fun b hb hf => ⟨Fr.set hi hf fun he => ?_, hk.block b hb (hf.2 a ha)⟩⟩ fun g hgx => hk.block g (M.lt (bT0 hj') hgx) fun he => M.dis i j a x g hi hj' (fun e => hne e.symm) he hgx
   rcases hg b he with h' | h'
   ·exact hf.2 a ha h'
   ·omega
  ·exact h
 ·rcases get j x hj with ⟨hne, hj'⟩ | ⟨e1, rfl⟩ <;> rcases get k y hk' with ⟨hne', hk''⟩ | ⟨e2, rfl⟩
  ·exact M.dis j k x y g hj' hk'' hjk hx hy
  ·rcases hg g hy with h' | h'
   ·exact M.dis j i x a g hj' hi hne hx h'
   ·have := M.lt (bT0 hj') hx; omega
  ·rcases hg g hx with h' | h'
   ·exact M.dis i k a y g hi hk'' (fun e => hne' e.symm) h' hy
   ·have := M.lt (bT0 hk'') hy; omega
  ·omega
 ·obtain ⟨j, hj⟩ := List.mem_iff_getElem?.1 hx
  rcases get j x hj with ⟨hne, hj'⟩ | ⟨_, rfl⟩
  ·exact M.ge x g (bT0 hj') hxg
  ·rcases hg g hxg with h' | h'
   ·exact M.ge a g ha h'
   ·exact .inl (bT4 M.size h')
theorem A3.mono {ψ ψ' : Nat → Prop} {w w' : World} (h : A3 ψ w w') (hp : ∀ b, ψ' b → ψ b) : A3 ψ' w w' := ⟨h.os, h.tape, h.output, h.size, fun b hb hp' => h.block b hb (hp b hp')⟩
theorem A3.setCell (w : World) (b j : Nat) (u : Value) : A3 (fun c => ¬ c = b) w (w.setCell ⟨b, j, none⟩ u) :=
 ⟨rfl, rfl, rfl, by simp [World.setCell], fun c _ hc => Below.heap_setCell _ _ _ _ hc⟩
theorem H7.set (M : H7 φ ψ w0 w L) (i : Nat) {b : Nat} {cs : List Value} (hi : L[i]? = some (.box b cs)) (j : Nat) (u : Value) : H7 φ ψ w0 (w.setCell ⟨b, j, none⟩ u) (L.set i (.box b (cs.set j u))) :=
 M.put hi _ (A3.setCell w b j u) (C2.set (M.holds _ (bT0 hi)) u) fun _ hg => .inl hg
theorem H7.setFrom (us : List Value) : ∀ {w : World} {L : List X5} {p : Nat} {cs : List Value}, H7 φ ψ w0 w L → ∀ (i : Nat) {b : Nat}, L[i]? = some (.box b cs) → H7 φ ψ w0 (World.setFrom w b p us) (L.set i (.box b (Go.Proofs.Ytmokkddidcmglaa.setFrom cs p us))) := by
 induction us with
 | nil =>
  intro w L p cs M i b hi
  have : L.set i (.box b cs) = L := by
   apply List.ext_getElem?
   intro j
   rw [List.getElem?_set]
   split
   ·rename_i e; subst e; rw [if_pos (bS0.1 hi).1, hi]
   ·rfl
  show H7 φ ψ w0 w (L.set i (.box b cs))
  rw [this]; exact M
 | cons u r ih =>
  intro w L p cs M i b hi
  have h1 := M.set i hi p u
  have h2 := ih (p := p + 1) h1 i (by rw [List.getElem?_set_self (bS0.1 hi).1])
  rw [List.set_set] at h2
  exact h2
theorem aI9 {cs us : List Value} (h : us.length = cs.length) : Go.Proofs.Ytmokkddidcmglaa.setFrom cs 0 us = us := by
 have h1 := af7 us cs 0 (by omega)
 rw [bV1, bT9 (by rw [D7]; omega)] at h1
 simpa using h1
theorem H7.fill (M : H7 φ ψ w0 w L) (i : Nat) {b : Nat} {cs : List Value} (hi : L[i]? = some (.box b cs)) (us : List Value) (h : us.length = cs.length) : H7 φ ψ w0 (World.setFrom w b 0 us) (L.set i (.box b us)) := by
 have h1 := M.setFrom us (p := 0) i hi
 rwa [aI9 h] at h1
theorem H7.app (M : H7 φ ψ w0 w L) (i : Nat) {e : TypeId} {sz : Nat} {v v' : Value} {n n' : Nat} {xs xs' : List Value} (hi : L[i]? = some (.row e sz v n xs)) (h : w'.ownsRow 0 e sz v' n' xs') (hg : w.grownBy w' v.ownBlock) (hb : ∀ g, v'.ownBlock = some g → v.ownBlock = some g ∨ w.heap.size ≤ g) :
  H7 φ ψ w0 w' (L.set i (.row e sz v' n' xs')) :=
 M.put hi _ ⟨hg.os, hg.tape, hg.output, hg.size, fun b hb hn => hg.block b hb fun h => hn h.symm⟩ h hb
theorem H7.take (M : H7 φ ψ w0 w L) (k : Nat) : H7 φ ψ w0 w (L.take k) :=
 ⟨M.kept, M.fresh, fun r hr => X5.keep (M.holds r (List.mem_of_mem_take hr)) (Agr.mono fun _ _ hf => ⟨hf.1, fun x hx => hf.2 x (List.mem_of_mem_take hx)⟩) fun _ _ => rfl,
  fun i j a b g hi hj hij => M.dis i j a b g (by rw [List.getElem?_take] at hi; split at hi; exact hi; cases hi) (by rw [List.getElem?_take] at hj; split at hj; exact hj; cases hj) hij, fun r b hr => M.ge r b (List.mem_of_mem_take hr)⟩
theorem H7.sel (M : H7 φ ψ w0 w L) (is : List Nat) (L' : List X5) (h : L'.map some = is.map fun i => L[i]?) (hn : is.Nodup) : H7 φ ψ w0 w L' := by
 have hl : L'.length = is.length := by simpa using congrArg List.length h
 have get : ∀ (j : Nat) (r : X5), L'[j]? = some r → ∃ i, is[j]? = some i ∧ L[i]? = some r := by
  intro j r hj
  have h1 : (L'.map some)[j]? = some (some r) := by simp [hj]
  rw [h, List.getElem?_map] at h1
  cases hi : is[j]? with
  | none => rw [hi] at h1; cases h1
  | some i => rw [hi] at h1; exact ⟨i, rfl, Option.some.inj h1⟩
 have mem : ∀ r, r ∈ L' → r ∈ L := fun r hr => by
  obtain ⟨j, hj⟩ := List.mem_iff_getElem?.1 hr
  obtain ⟨i, _, hi⟩ := get j r hj
  exact bT0 hi
 refine ⟨M.kept, M.fresh, fun r hr => X5.keep (M.holds r (mem r hr)) (Agr.mono fun _ _ hf => ⟨hf.1, fun x hx => hf.2 x (mem x hx)⟩) fun _ _ => rfl, fun j k a b g hj hk hjk ha hb => ?_, fun r b hr => M.ge r b (mem r hr)⟩
 obtain ⟨i1, e1, h1⟩ := get j a hj
 obtain ⟨i2, e2, h2⟩ := get k b hk
 refine M.dis i1 i2 a b g h1 h2 (fun e => hjk ?_) ha hb
 subst e
 have hlt := (bS0.1 e1).1
 exact (List.getElem?_inj hlt hn).1 (e1.trans e2.symm)
theorem H7.c (M : H7 φ ψ w0 w L) (i j : Nat) {b : Nat} {cs : List Value} {u : Value} (hi : L[i]? = some (.box b cs)) (hj : cs[j]? = some u) : w.cell? ⟨b, j, none⟩ = some u :=
 (C2.cell (M.holds _ (bT0 hi)) j).trans hj
theorem H7.f (M : H7 φ ψ w0 w L) (i : Nat) {b : Nat} {cs : List Value} (hi : L[i]? = some (.box b cs)) : ∀ j, w.frozen? ⟨b, j, none⟩ = false := C2.free (M.holds _ (bT0 hi))
theorem H7.blk (M : H7 φ ψ w0 w L) (i : Nat) {b : Nat} {cs : List Value} (hi : L[i]? = some (.box b cs)) : C2 w b cs := M.holds _ (bT0 hi)
theorem H7.d (M : H7 φ ψ w0 w L) (i : Nat) {R : World → (Nat → Prop) → Prop} (hi : L[i]? = some (.dat R)) : R w (Fr φ L) := (M.holds _ (bT0 hi)).2
theorem H7.dn (M : H7 φ ψ w0 w L) (i : Nat) {R : World → (Nat → Prop) → Prop} (hi : L[i]? = some (.dat R)) : V9 R := (M.holds _ (bT0 hi)).1
theorem H7.out (M : H7 φ ψ w0 w L) (i : Nat) {R : World → (Nat → Prop) → Prop} (hi : L[i]? = some (.dat R)) : R w φ := M.dn i hi _ _ _ _ (Agr.mono fun _ _ hf => hf.1) (M.d i hi)
theorem H7.as (M : H7 φ ψ w0 w L) (L' : List X5) (h : L = L') : H7 φ ψ w0 w L' := h ▸ M
end
end Go.Proofs.Ytmokkddidcmglaa

namespace Go.Proofs.Ytmokkddidcmglaa
inductive c8 where
 | mk (kind value : Int) (kids : List c8)
def c8.kind : c8 → Int | ⟨k, _, _⟩ => k
def c8.value : c8 → Int | ⟨_, n, _⟩ => n
def c8.kids : c8 → List c8 | ⟨_, _, ks⟩ => ks
inductive c6 where
 | mk (kind target : Int) (index value : c8) (count : Int) (body els : List c6)
def c6.kind : c6 → Int | ⟨k, _, _, _, _, _, _⟩ => k
def c6.target : c6 → Int | ⟨_, t, _, _, _, _, _⟩ => t
def c6.index : c6 → c8 | ⟨_, _, i, _, _, _, _⟩ => i
def c6.value : c6 → c8 | ⟨_, _, _, v, _, _, _⟩ => v
def c6.count : c6 → Int | ⟨_, _, _, _, c, _, _⟩ => c
def c6.body : c6 → List c6 | ⟨_, _, _, _, _, b, _⟩ => b
def c6.els : c6 → List c6 | ⟨_, _, _, _, _, _, e⟩ => e
structure j8 where
 vars : List Int
 arrays : List Int
 body : List c6
mutual
theorem c8.ind {P : c8 → Prop} (h : ∀ k n ks, (∀ e ∈ ks, P e) → P ⟨k, n, ks⟩) : ∀ e : c8, P e
 | ⟨k, n, ks⟩ => h k n ks (c8.indL h ks)
theorem c8.indL {P : c8 → Prop} (h : ∀ k n ks, (∀ e ∈ ks, P e) → P ⟨k, n, ks⟩) : ∀ ks : List c8, ∀ e ∈ ks, P e
 | [] => fun _ hm => by cases hm
 | a :: r => fun _ hm => (bU2.1 hm).elim (fun he => he ▸ c8.ind h a) fun hm => c8.indL h r _ hm
end
mutual
theorem c6.ind {P : c6 → Prop} (h : ∀ k t i v c b e, (∀ s ∈ b, P s) → (∀ s ∈ e, P s) → P ⟨k, t, i, v, c, b, e⟩) : ∀ s : c6, P s
 | ⟨k, t, i, v, c, b, e⟩ => h k t i v c b e (c6.indL h b) (c6.indL h e)
theorem c6.indL {P : c6 → Prop} (h : ∀ k t i v c b e, (∀ s ∈ b, P s) → (∀ s ∈ e, P s) → P ⟨k, t, i, v, c, b, e⟩) : ∀ ss : List c6, ∀ s ∈ ss, P s
 | [] => fun _ hm => by cases hm
 | a :: r => fun _ hm => (bU2.1 hm).elim (fun he => he ▸ c6.ind h a) fun hm => c6.indL h r _ hm
end
mutual
def O2 : c8 → Nat
 | ⟨_, _, ks⟩ => K7 ks
def K7 : List c8 → Nat
 | [] => 0
 | e :: r => 1 + O2 e + K7 r
end
mutual
def szS : c6 → Nat
 | ⟨_, _, i, v, _, b, e⟩ => O2 i + O2 v + t0 b + t0 e
def t0 : List c6 → Nat
 | [] => 0
 | s :: r => 1 + szS s + t0 r
end
def j8.size (p : j8) : Nat := p.vars.length + p.arrays.length + t0 p.body
theorem Y1 (a b : List c8) : K7 (a ++ b) = K7 a + K7 b := by
 induction a with
 | nil => simp [K7]
 | cons x r ih => simp [K7, ih]; omega
theorem al4 (a b : List c6) : t0 (a ++ b) = t0 a + t0 b := by
 induction a with
 | nil => simp [t0]
 | cons x r ih => simp [t0, ih]; omega
theorem aI3 (a : List c8) : a.length ≤ K7 a := by
 induction a with
 | nil => simp
 | cons x r ih => simp only [K7, bS1]; omega
theorem af2 (a : List c6) : a.length ≤ t0 a := by
 induction a with
 | nil => simp
 | cons x r ih => simp only [t0, bS1]; omega
theorem bk4 {s : c6} {ss : List c6} (h : s ∈ ss) : szS s < t0 ss := by
 induction ss with
 | nil => cases h
 | cons x r ih =>
  simp only [t0]
  rcases bU2.1 h with rfl | h
  ·omega
  ·have := ih h; omega
mutual
def bb1 : c8 → c8 → Bool
 | ⟨k, n, ks⟩, ⟨k', n', ks'⟩ => decide (k = k') && decide (n = n') && bb0 ks ks'
def bb0 : List c8 → List c8 → Bool
 | [], [] => true
 | e :: r, e' :: r' => bb1 e e' && bb0 r r'
 | _, _ => false
end
mutual
def bD4 : c6 → c6 → Bool
 | ⟨k, t, i, v, c, b, e⟩, ⟨k', t', i', v', c', b', e'⟩ => decide (k = k') && decide (t = t') && bb1 i i' && bb1 v v' && decide (c = c') && aC5 b b' && aC5 e e'
def aC5 : List c6 → List c6 → Bool
 | [], [] => true
 | s :: r, s' :: r' => bD4 s s' && aC5 r r'
 | _, _ => false
end
def j8.same (p q : j8) : Bool := decide (p.vars = q.vars) && decide (p.arrays = q.arrays) && aC5 p.body q.body
end Go.Proofs.Ytmokkddidcmglaa

namespace Go.Proofs.Ytmokkddidcmglaa
open Go Go.RowKit
section
mutual
def L7 (w : World) (φ : Nat → Prop) : c8 → List Value → Prop
 | ⟨k, n, ks⟩, cs => ∃ v xs, cs = [.int .i64 k, .int .i64 n, v] ∧ v6 w φ v ks.length 3 xs ∧ v9 w φ ks xs
def v9 (w : World) (φ : Nat → Prop) : List c8 → List Value → Prop
 | [], xs => xs = []
 | e :: r, xs => ∃ c ys, xs = c ++ ys ∧ L7 w φ e c ∧ v9 w φ r ys
end
def E0 (w : World) (φ : Nat → Prop) (v : Value) (ks : List c8) : Prop := ∃ xs, v6 w φ v ks.length 3 xs ∧ v9 w φ ks xs
def a21 (w : World) (φ : Nat → Prop) (v : Value) (e : c8) : Prop := ∃ kv, v = .agg #[.int .i64 e.kind, .int .i64 e.value, kv] ∧ E0 w φ kv e.kids
mutual
def K3 (w : World) (φ : Nat → Prop) : c6 → List Value → Prop
 | ⟨k, t, i, v, c, b, e⟩, cs => ∃ iv vv bv ev xb xe, cs = [.int .i64 k, .int .i64 t, .int .i64 i.kind, .int .i64 i.value, iv, .int .i64 v.kind, .int .i64 v.value, vv, .int .i64 c, bv, ev] ∧
   E0 w φ iv i.kids ∧ E0 w φ vv v.kids ∧ v6 w φ bv b.length 11 xb ∧ t9 w φ b xb ∧ v6 w φ ev e.length 11 xe ∧ t9 w φ e xe
def t9 (w : World) (φ : Nat → Prop) : List c6 → List Value → Prop
 | [], xs => xs = []
 | s :: r, xs => ∃ c ys, xs = c ++ ys ∧ K3 w φ s c ∧ t9 w φ r ys
end
def E6 (w : World) (φ : Nat → Prop) (v : Value) (ss : List c6) : Prop := ∃ xs, v6 w φ v ss.length 11 xs ∧ t9 w φ ss xs
def a20 (w : World) (φ : Nat → Prop) (v : Value) (s : c6) : Prop :=
 ∃ iv vv bv ev, v = .agg #[.int .i64 s.kind, .int .i64 s.target, .int .i64 s.index.kind, .int .i64 s.index.value, iv, .int .i64 s.value.kind, .int .i64 s.value.value, vv, .int .i64 s.count, bv, ev] ∧
  E0 w φ iv s.index.kids ∧ E0 w φ vv s.value.kids ∧ E6 w φ bv s.body ∧ E6 w φ ev s.els
def bj9 (w : World) (φ : Nat → Prop) (v : Value) (p : j8) : Prop :=
 ∃ v1 v2 v3, v = .agg #[v1, v2, v3] ∧ v6 w φ v1 p.vars.length 1 (ints p.vars) ∧ v6 w φ v2 p.arrays.length 1 (ints p.arrays) ∧ E6 w φ v3 p.body
variable {w w' : World} {φ φ' : Nat → Prop}
mutual
theorem L7.agr (ha : Agr φ φ' w w') : ∀ (e : c8) (cs : List Value), L7 w φ e cs → L7 w' φ' e cs
 | ⟨_, _, ks⟩, _, ⟨v, xs, h1, h2, h3⟩ => ⟨v, xs, h1, v6.nice _ _ _ _ _ _ _ _ ha h2, v9.agr ha ks xs h3⟩
theorem v9.agr (ha : Agr φ φ' w w') : ∀ (ks : List c8) (xs : List Value), v9 w φ ks xs → v9 w' φ' ks xs
 | [], _, h => h
 | e :: r, _, ⟨c, ys, h1, h2, h3⟩ => ⟨c, ys, h1, L7.agr ha e c h2, v9.agr ha r ys h3⟩
end
theorem v9.nice (ks : List c8) (xs : List Value) : V9 fun w φ => v9 w φ ks xs := fun _ _ _ _ ha h => v9.agr ha ks xs h
theorem E0.nice (v : Value) (ks : List c8) : V9 fun w φ => E0 w φ v ks := fun _ _ _ _ ha ⟨xs, h1, h2⟩ => ⟨xs, v6.nice _ _ _ _ _ _ _ _ ha h1, v9.agr ha ks xs h2⟩
theorem a21.nice (v : Value) (e : c8) : V9 fun w φ => a21 w φ v e := fun _ _ _ _ ha ⟨kv, h1, h2⟩ => ⟨kv, h1, E0.nice _ _ _ _ _ _ ha h2⟩
mutual
theorem K3.agr (ha : Agr φ φ' w w') : ∀ (s : c6) (cs : List Value), K3 w φ s cs → K3 w' φ' s cs
 | ⟨_, _, _, _, _, b, e⟩, _, ⟨iv, vv, bv, ev, xb, xe, h1, h2, h3, h4, h5, h6, h7⟩ =>
  ⟨iv, vv, bv, ev, xb, xe, h1, E0.nice _ _ _ _ _ _ ha h2, E0.nice _ _ _ _ _ _ ha h3, v6.nice _ _ _ _ _ _ _ _ ha h4, t9.agr ha b xb h5, v6.nice _ _ _ _ _ _ _ _ ha h6, t9.agr ha e xe h7⟩
theorem t9.agr (ha : Agr φ φ' w w') : ∀ (ss : List c6) (xs : List Value), t9 w φ ss xs → t9 w' φ' ss xs
 | [], _, h => h
 | s :: r, _, ⟨c, ys, h1, h2, h3⟩ => ⟨c, ys, h1, K3.agr ha s c h2, t9.agr ha r ys h3⟩
end
theorem t9.nice (ss : List c6) (xs : List Value) : V9 fun w φ => t9 w φ ss xs := fun _ _ _ _ ha h => t9.agr ha ss xs h
theorem E6.nice (v : Value) (ss : List c6) : V9 fun w φ => E6 w φ v ss := fun _ _ _ _ ha ⟨xs, h1, h2⟩ => ⟨xs, v6.nice _ _ _ _ _ _ _ _ ha h1, t9.agr ha ss xs h2⟩
theorem a20.nice (v : Value) (s : c6) : V9 fun w φ => a20 w φ v s := fun _ _ _ _ ha ⟨iv, vv, bv, ev, h1, h2, h3, h4, h5⟩ =>
 ⟨iv, vv, bv, ev, h1, E0.nice _ _ _ _ _ _ ha h2, E0.nice _ _ _ _ _ _ ha h3, E6.nice _ _ _ _ _ _ ha h4, E6.nice _ _ _ _ _ _ ha h5⟩
theorem bj9.nice (v : Value) (p : j8) : V9 fun w φ => bj9 w φ v p := fun _ _ _ _ ha ⟨v1, v2, v3, h1, h2, h3, h4⟩ =>
 ⟨v1, v2, v3, h1, v6.nice _ _ _ _ _ _ _ _ ha h2, v6.nice _ _ _ _ _ _ _ _ ha h3, E6.nice _ _ _ _ _ _ ha h4⟩
theorem L7.iff (e : c8) (cs : List Value) : L7 w φ e cs ↔ ∃ kv, cs = [.int .i64 e.kind, .int .i64 e.value, kv] ∧ E0 w φ kv e.kids := by
 cases e with
 | mk k n ks => exact ⟨fun ⟨v, xs, h1, h2, h3⟩ => ⟨v, h1, xs, h2, h3⟩, fun ⟨v, h1, xs, h2, h3⟩ => ⟨v, xs, h1, h2, h3⟩⟩
theorem K3.iff (s : c6) (cs : List Value) : K3 w φ s cs ↔ ∃ iv vv bv ev, cs = [.int .i64 s.kind, .int .i64 s.target, .int .i64 s.index.kind, .int .i64 s.index.value, iv, .int .i64 s.value.kind, .int .i64 s.value.value, vv, .int .i64 s.count, bv, ev] ∧
  E0 w φ iv s.index.kids ∧ E0 w φ vv s.value.kids ∧ E6 w φ bv s.body ∧ E6 w φ ev s.els := by
 cases s with
 | mk k t i v c b e =>
  exact ⟨fun ⟨iv, vv, bv, ev, xb, xe, h1, h2, h3, h4, h5, h6, h7⟩ => ⟨iv, vv, bv, ev, h1, h2, h3, ⟨xb, h4, h5⟩, ⟨xe, h6, h7⟩⟩,
   fun ⟨iv, vv, bv, ev, h1, h2, h3, ⟨xb, h4, h5⟩, ⟨xe, h6, h7⟩⟩ => ⟨iv, vv, bv, ev, xb, xe, h1, h2, h3, h4, h5, h6, h7⟩⟩
theorem a21.iff {v : Value} {e : c8} : a21 w φ v e ↔ ∃ cs : List Value, v = .agg cs.toArray ∧ L7 w φ e cs :=
 ⟨fun ⟨kv, h1, h2⟩ => ⟨_, h1, (L7.iff e _).2 ⟨kv, rfl, h2⟩⟩, fun ⟨cs, h1, h2⟩ => by obtain ⟨kv, rfl, h3⟩ := (L7.iff e cs).1 h2; exact ⟨kv, h1, h3⟩⟩
theorem a20.iff {v : Value} {s : c6} : a20 w φ v s ↔ ∃ cs : List Value, v = .agg cs.toArray ∧ K3 w φ s cs :=
 ⟨fun ⟨iv, vv, bv, ev, h1, h2⟩ => ⟨_, h1, (K3.iff s _).2 ⟨iv, vv, bv, ev, rfl, h2⟩⟩, fun ⟨cs, h1, h2⟩ => by obtain ⟨iv, vv, bv, ev, rfl, h3⟩ := (K3.iff s cs).1 h2; exact ⟨iv, vv, bv, ev, h1, h3⟩⟩
theorem v9.len : ∀ {ks : List c8} {xs : List Value}, v9 w φ ks xs → xs.length = ks.length * 3
 | [], _, h => by rw [show _ = [] from h]; rfl
 | e :: r, _, ⟨c, ys, h1, h2, h3⟩ => by
  obtain ⟨kv, rfl, _⟩ := (L7.iff e c).1 h2
  rw [h1, bR8, v9.len h3, bS1]; simp; omega
theorem t9.len : ∀ {ss : List c6} {xs : List Value}, t9 w φ ss xs → xs.length = ss.length * 11
 | [], _, h => by rw [show _ = [] from h]; rfl
 | s :: r, _, ⟨c, ys, h1, h2, h3⟩ => by
  obtain ⟨iv, vv, bv, ev, rfl, _⟩ := (K3.iff s c).1 h2
  rw [h1, bR8, t9.len h3, bS1]; simp; omega
theorem v9.at : ∀ {ks : List c8} {xs : List Value}, v9 w φ ks xs → ∀ (i : Nat) (hi : i < ks.length), ∃ kv, xs[i * 3]? = some (.int .i64 ks[i].kind) ∧ xs[i * 3 + 1]? = some (.int .i64 ks[i].value) ∧ xs[i * 3 + 2]? = some kv ∧ E0 w φ kv ks[i].kids
 | [], _, _, i, hi => by simp at hi
 | e :: r, _, ⟨c, ys, h1, h2, h3⟩, i, hi => by
  obtain ⟨kv, rfl, hk⟩ := (L7.iff e c).1 h2
  subst h1
  cases i with
  | zero => exact ⟨kv, rfl, rfl, rfl, hk⟩
  | succ i =>
   obtain ⟨kv', a, b, d, f⟩ := v9.at h3 i (by simpa using hi)
   refine ⟨kv', ?_, ?_, ?_, f⟩ <;> (rw [bT7]; simpa [Nat.add_assoc] using by assumption)
theorem t9.at : ∀ {ss : List c6} {xs : List Value}, t9 w φ ss xs → ∀ (i : Nat) (hi : i < ss.length), ∃ cs : List Value, cs.length = 11 ∧ K3 w φ ss[i] cs ∧ ∀ j, j < 11 → xs[i * 11 + j]? = cs[j]?
 | [], _, _, i, hi => by simp at hi
 | s :: r, _, ⟨c, ys, h1, h2, h3⟩, i, hi => by
  have hc : c.length = 11 := by obtain ⟨iv, vv, bv, ev, rfl, _⟩ := (K3.iff s c).1 h2; rfl
  subst h1
  cases i with
  | zero => exact ⟨c, hc, h2, fun j hj => by rw [bT3 (by omega)]; simp⟩
  | succ i =>
   obtain ⟨cs, a, b, d⟩ := t9.at h3 i (by simpa using hi)
   refine ⟨cs, a, b, fun j hj => ?_⟩
   rw [List.getElem?_append_right (by rw [hc, bT7]; omega), ← d j hj]
   congr 1
   rw [hc, bT7]; omega
theorem v9.append : ∀ {ks : List c8} {xs : List Value} {ls : List c8} {ys : List Value}, v9 w φ ks xs → v9 w φ ls ys → v9 w φ (ks ++ ls) (xs ++ ys)
 | [], _, _, _, h, k => by rw [show _ = [] from h]; exact k
 | e :: r, _, _, _, ⟨c, zs, h1, h2, h3⟩, k => ⟨c, zs ++ _, by rw [h1, bV5], h2, v9.append h3 k⟩
theorem v9.one {e : c8} {c : List Value} (h : L7 w φ e c) : v9 w φ [e] c := ⟨c, [], by simp, h, rfl⟩
theorem t9.append : ∀ {ks : List c6} {xs : List Value} {ls : List c6} {ys : List Value}, t9 w φ ks xs → t9 w φ ls ys → t9 w φ (ks ++ ls) (xs ++ ys)
 | [], _, _, _, h, k => by rw [show _ = [] from h]; exact k
 | e :: r, _, _, _, ⟨c, zs, h1, h2, h3⟩, k => ⟨c, zs ++ _, by rw [h1, bV5], h2, t9.append h3 k⟩
theorem t9.one {s : c6} {c : List Value} (h : K3 w φ s c) : t9 w φ [s] c := ⟨c, [], by simp, h, rfl⟩
theorem E0.open {v : Value} {ks : List c8} (h : E0 w φ v ks) : ∃ a cap, v = .slice a ks.length cap ∧ ks.length ≤ cap ∧ ks.length ≤ 9223372036854775807 ∧ cap ≤ 9223372036854775807 ∧
  ∀ i (hi : i < ks.length), ∃ b off kv, a = some ⟨b, off, none⟩ ∧ b < w.heap.size ∧ φ b ∧ w.cell? ⟨b, off + i * 3, none⟩ = some (.int .i64 ks[i].kind) ∧ w.cell? ⟨b, off + i * 3 + 1, none⟩ = some (.int .i64 ks[i].value) ∧ w.cell? ⟨b, off + i * 3 + 2, none⟩ = some kv ∧ E0 w φ kv ks[i].kids := by
 obtain ⟨xs, ⟨hl, a, cap, rfl, h1, h2, h3⟩, hx⟩ := h
 unfold maxLen at h2
 refine ⟨a, cap, rfl, h1, by omega, by omega, fun i hi => ?_⟩
 obtain ⟨b, off, rfl, hb, hf, hc⟩ := h3 (by omega)
 obtain ⟨kv, e0, e1, e2, hk⟩ := hx.at i hi
 exact ⟨b, off, kv, rfl, hb, hf, hc _ _ e0, hc _ _ e1, hc _ _ e2, hk⟩
theorem E6.open {v : Value} {ss : List c6} (h : E6 w φ v ss) : ∃ a cap, v = .slice a ss.length cap ∧ ss.length ≤ cap ∧ ss.length ≤ 9223372036854775807 ∧ cap ≤ 9223372036854775807 ∧
  ∀ i (hi : i < ss.length), ∃ b off iv vv bv ev, a = some ⟨b, off, none⟩ ∧ b < w.heap.size ∧ φ b ∧
   (w.cell? ⟨b, off + i * 11, none⟩ = some (.int .i64 ss[i].kind) ∧ w.cell? ⟨b, off + i * 11 + 1, none⟩ = some (.int .i64 ss[i].target) ∧ w.cell? ⟨b, off + i * 11 + 2, none⟩ = some (.int .i64 ss[i].index.kind) ∧ w.cell? ⟨b, off + i * 11 + 3, none⟩ = some (.int .i64 ss[i].index.value) ∧ w.cell? ⟨b, off + i * 11 + 4, none⟩ = some iv ∧
    w.cell? ⟨b, off + i * 11 + 5, none⟩ = some (.int .i64 ss[i].value.kind) ∧ w.cell? ⟨b, off + i * 11 + 6, none⟩ = some (.int .i64 ss[i].value.value) ∧ w.cell? ⟨b, off + i * 11 + 7, none⟩ = some vv ∧ w.cell? ⟨b, off + i * 11 + 8, none⟩ = some (.int .i64 ss[i].count) ∧ w.cell? ⟨b, off + i * 11 + 9, none⟩ = some bv ∧ w.cell? ⟨b, off + i * 11 + 10, none⟩ = some ev) ∧
   E0 w φ iv ss[i].index.kids ∧ E0 w φ vv ss[i].value.kids ∧ E6 w φ bv ss[i].body ∧ E6 w φ ev ss[i].els := by
 obtain ⟨xs, ⟨hl, a, cap, rfl, h1, h2, h3⟩, hx⟩ := h
 unfold maxLen at h2
 refine ⟨a, cap, rfl, h1, by omega, by omega, fun i hi => ?_⟩
 obtain ⟨b, off, rfl, hb, hf, hc⟩ := h3 (by omega)
 obtain ⟨cs, hl2, hs, hj⟩ := hx.at i hi
 obtain ⟨iv, vv, bv, ev, rfl, k1, k2, k3, k4⟩ := (K3.iff _ _).1 hs
 refine ⟨b, off, iv, vv, bv, ev, rfl, hb, hf, ⟨?_, ?_, ?_, ?_, ?_, ?_, ?_, ?_, ?_, ?_, ?_⟩, k1, k2, k3, k4⟩
 ·have := hc (i * 11 + 0) _ ((hj 0 (by omega)).trans rfl); simpa using this
 ·exact hc (i * 11 + 1) _ ((hj 1 (by omega)).trans rfl)
 ·exact hc (i * 11 + 2) _ ((hj 2 (by omega)).trans rfl)
 ·exact hc (i * 11 + 3) _ ((hj 3 (by omega)).trans rfl)
 ·exact hc (i * 11 + 4) _ ((hj 4 (by omega)).trans rfl)
 ·exact hc (i * 11 + 5) _ ((hj 5 (by omega)).trans rfl)
 ·exact hc (i * 11 + 6) _ ((hj 6 (by omega)).trans rfl)
 ·exact hc (i * 11 + 7) _ ((hj 7 (by omega)).trans rfl)
 ·exact hc (i * 11 + 8) _ ((hj 8 (by omega)).trans rfl)
 ·exact hc (i * 11 + 9) _ ((hj 9 (by omega)).trans rfl)
 ·exact hc (i * 11 + 10) _ ((hj 10 (by omega)).trans rfl)
theorem E0.nil (w : World) (φ : Nat → Prop) : E0 w φ (.slice none 0 0) [] := ⟨[], v6.nil _ _ _, rfl⟩
theorem E6.nil (w : World) (φ : Nat → Prop) : E6 w φ (.slice none 0 0) [] := ⟨[], v6.nil _ _ _, rfl⟩
end
section
mutual
def B6 (w : World) : c8 → (Nat → Prop) → List Value → Prop
 | ⟨k, n, ks⟩, S, cs => ∃ (v : Value) (xs : List Value) (S' : Nat → Prop), cs = [.int .i64 k, .int .i64 n, v] ∧ w.ownsRow 0 29 3 v ks.length xs ∧ (∀ g, v.ownBlock = some g → S g ∧ ¬ S' g) ∧ (∀ b, S' b → S b) ∧ m8 w ks S' xs
def m8 (w : World) : List c8 → (Nat → Prop) → List Value → Prop
 | [], _, xs => xs = []
 | e :: r, S, xs => ∃ (c ys : List Value) (S1 S2 : Nat → Prop), xs = c ++ ys ∧ (∀ b, S1 b → S b ∧ ¬ S2 b) ∧ (∀ b, S2 b → S b) ∧ B6 w e S1 c ∧ m8 w r S2 ys
end
def E1 (w : World) (v : Value) (ks : List c8) (S : Nat → Prop) : Prop :=
 ∃ (xs : List Value) (S' : Nat → Prop), w.ownsRow 0 29 3 v ks.length xs ∧ (∀ g, v.ownBlock = some g → S g ∧ ¬ S' g) ∧ (∀ b, S' b → S b) ∧ m8 w ks S' xs
mutual
def C7 (w : World) : c6 → (Nat → Prop) → List Value → Prop
 | ⟨k, t, i, v, c, b, e⟩, S, cs => ∃ (iv vv bv ev : Value) (xb xe : List Value) (Si Sv Sb Se Sb' Se' : Nat → Prop), cs = [.int .i64 k, .int .i64 t, .int .i64 i.kind, .int .i64 i.value, iv, .int .i64 v.kind, .int .i64 v.value, vv, .int .i64 c, bv, ev] ∧
   ((∀ b, Si b → S b ∧ ¬ Sv b ∧ ¬ Sb b ∧ ¬ Se b) ∧ (∀ b, Sv b → S b ∧ ¬ Sb b ∧ ¬ Se b) ∧ (∀ b, Sb b → S b ∧ ¬ Se b) ∧ (∀ b, Se b → S b)) ∧ E1 w iv i.kids Si ∧ E1 w vv v.kids Sv ∧
   (w.ownsRow 0 103 11 bv b.length xb ∧ (∀ g, bv.ownBlock = some g → Sb g ∧ ¬ Sb' g) ∧ (∀ b, Sb' b → Sb b) ∧ m6 w b Sb' xb) ∧
   (w.ownsRow 0 103 11 ev e.length xe ∧ (∀ g, ev.ownBlock = some g → Se g ∧ ¬ Se' g) ∧ (∀ b, Se' b → Se b) ∧ m6 w e Se' xe)
def m6 (w : World) : List c6 → (Nat → Prop) → List Value → Prop
 | [], _, xs => xs = []
 | s :: r, S, xs => ∃ (c ys : List Value) (S1 S2 : Nat → Prop), xs = c ++ ys ∧ (∀ b, S1 b → S b ∧ ¬ S2 b) ∧ (∀ b, S2 b → S b) ∧ C7 w s S1 c ∧ m6 w r S2 ys
end
def F6 (w : World) (v : Value) (ss : List c6) (S : Nat → Prop) : Prop :=
 ∃ (xs : List Value) (S' : Nat → Prop), w.ownsRow 0 103 11 v ss.length xs ∧ (∀ g, v.ownBlock = some g → S g ∧ ¬ S' g) ∧ (∀ b, S' b → S b) ∧ m6 w ss S' xs
def am1 (w : World) (v : Value) (p : j8) (S : Nat → Prop) : Prop :=
 ∃ (v1 v2 v3 : Value) (S3 : Nat → Prop), v = .agg #[v1, v2, v3] ∧ w.ownsRow 0 3 1 v1 p.vars.length (ints p.vars) ∧ w.ownsRow 0 3 1 v2 p.arrays.length (ints p.arrays) ∧ F6 w v3 p.body S3 ∧
  (∀ g, v1.ownBlock = some g → S g ∧ ¬ S3 g ∧ v2.ownBlock ≠ some g) ∧ (∀ g, v2.ownBlock = some g → S g ∧ ¬ S3 g) ∧ (∀ b, S3 b → S b)
variable {w w' : World} {S S' φ : Nat → Prop}
theorem D3 {e : TypeId} {sz : Nat} {v : Value} {n : Nat} {xs : List Value} (h : w.ownsRow 0 e sz v n xs) (hs : ∀ g, v.ownBlock = some g → w'.heap[g]? = w.heap[g]?) : w'.ownsRow 0 e sz v n xs :=
 (A9.same (A9.mk' h) hs).1
mutual
theorem B6.same : ∀ (e : c8) (S : Nat → Prop) (cs : List Value), B6 w e S cs → (∀ b, S b → b < w.heap.size → w'.heap[b]? = w.heap[b]?) → B6 w' e S cs
 | ⟨_, _, ks⟩, S, _, ⟨v, xs, S', h1, h2, h3, h4, h5⟩, hs => ⟨v, xs, S', h1, D3 h2 fun g hg => hs g (h3 g hg).1 (World.ownsRow.lt h2 g hg).2, h3, h4, m8.same ks S' xs h5 fun b hb => hs b (h4 b hb)⟩
theorem m8.same : ∀ (ks : List c8) (S : Nat → Prop) (xs : List Value), m8 w ks S xs → (∀ b, S b → b < w.heap.size → w'.heap[b]? = w.heap[b]?) → m8 w' ks S xs
 | [], _, _, h, _ => h
 | e :: r, S, _, ⟨c, ys, S1, S2, h1, h2, h3, h4, h5⟩, hs => ⟨c, ys, S1, S2, h1, h2, h3, B6.same e S1 c h4 fun b hb => hs b (h2 b hb).1, m8.same r S2 ys h5 fun b hb => hs b (h3 b hb)⟩
end
theorem E1.same {v : Value} {ks : List c8} (h : E1 w v ks S) (hs : ∀ b, S b → b < w.heap.size → w'.heap[b]? = w.heap[b]?) : E1 w' v ks S := by
 obtain ⟨xs, S', h2, h3, h4, h5⟩ := h
 exact ⟨xs, S', D3 h2 fun g hg => hs g (h3 g hg).1 (World.ownsRow.lt h2 g hg).2, h3, h4, m8.same ks S' xs h5 fun b hb => hs b (h4 b hb)⟩
mutual
theorem C7.same : ∀ (s : c6) (S : Nat → Prop) (cs : List Value), C7 w s S cs → (∀ b, S b → b < w.heap.size → w'.heap[b]? = w.heap[b]?) → C7 w' s S cs
 | ⟨_, _, _, _, _, b, e⟩, S, _, ⟨iv, vv, bv, ev, xb, xe, Si, Sv, Sb, Se, Sb', Se', h1, ⟨d1, d2, d3, d4⟩, h2, h3, ⟨b1, b2, b3, b4⟩, ⟨e1, e2, e3, e4⟩⟩, hs =>
  ⟨iv, vv, bv, ev, xb, xe, Si, Sv, Sb, Se, Sb', Se', h1, ⟨d1, d2, d3, d4⟩, h2.same fun b hb => hs b (d1 b hb).1, h3.same fun b hb => hs b (d2 b hb).1,
   ⟨D3 b1 fun g hg => hs g (d3 g (b2 g hg).1).1 (World.ownsRow.lt b1 g hg).2, b2, b3, m6.same b Sb' xb b4 fun x hx => hs x (d3 x (b3 x hx)).1⟩,
   ⟨D3 e1 fun g hg => hs g (d4 g (e2 g hg).1) (World.ownsRow.lt e1 g hg).2, e2, e3, m6.same e Se' xe e4 fun x hx => hs x (d4 x (e3 x hx))⟩⟩
theorem m6.same : ∀ (ss : List c6) (S : Nat → Prop) (xs : List Value), m6 w ss S xs → (∀ b, S b → b < w.heap.size → w'.heap[b]? = w.heap[b]?) → m6 w' ss S xs
 | [], _, _, h, _ => h
 | s :: r, S, _, ⟨c, ys, S1, S2, h1, h2, h3, h4, h5⟩, hs => ⟨c, ys, S1, S2, h1, h2, h3, C7.same s S1 c h4 fun b hb => hs b (h2 b hb).1, m6.same r S2 ys h5 fun b hb => hs b (h3 b hb)⟩
end
theorem F6.same {v : Value} {ss : List c6} (h : F6 w v ss S) (hs : ∀ b, S b → b < w.heap.size → w'.heap[b]? = w.heap[b]?) : F6 w' v ss S := by
 obtain ⟨xs, S', h2, h3, h4, h5⟩ := h
 exact ⟨xs, S', D3 h2 fun g hg => hs g (h3 g hg).1 (World.ownsRow.lt h2 g hg).2, h3, h4, m6.same ss S' xs h5 fun b hb => hs b (h4 b hb)⟩
theorem am1.same {v : Value} {p : j8} (h : am1 w v p S) (hs : ∀ b, S b → b < w.heap.size → w'.heap[b]? = w.heap[b]?) : am1 w' v p S := by
 obtain ⟨v1, v2, v3, S3, rfl, h1, h2, h3, d1, d2, d3⟩ := h
 exact ⟨v1, v2, v3, S3, rfl, D3 h1 fun g hg => hs g (d1 g hg).1 (World.ownsRow.lt h1 g hg).2, D3 h2 fun g hg => hs g (d2 g hg).1 (World.ownsRow.lt h2 g hg).2, h3.same fun b hb => hs b (d3 b hb), d1, d2, d3⟩
theorem E1.mono {v : Value} {ks : List c8} (h : E1 w v ks S) (hs : ∀ b, S b → S' b) : E1 w v ks S' := by
 obtain ⟨xs, T, h2, h3, h4, h5⟩ := h
 exact ⟨xs, T, h2, fun g hg => ⟨hs g (h3 g hg).1, (h3 g hg).2⟩, fun b hb => hs b (h4 b hb), h5⟩
theorem F6.mono {v : Value} {ss : List c6} (h : F6 w v ss S) (hs : ∀ b, S b → S' b) : F6 w v ss S' := by
 obtain ⟨xs, T, h2, h3, h4, h5⟩ := h
 exact ⟨xs, T, h2, fun g hg => ⟨hs g (h3 g hg).1, (h3 g hg).2⟩, fun b hb => hs b (h4 b hb), h5⟩
theorem am1.mono {v : Value} {p : j8} (h : am1 w v p S) (hs : ∀ b, S b → S' b) : am1 w v p S' := by
 obtain ⟨v1, v2, v3, S3, rfl, h1, h2, h3, d1, d2, d3⟩ := h
 exact ⟨v1, v2, v3, S3, rfl, h1, h2, h3, fun g hg => ⟨hs g (d1 g hg).1, (d1 g hg).2⟩, fun g hg => ⟨hs g (d2 g hg).1, (d2 g hg).2⟩, fun b hb => hs b (d3 b hb)⟩
mutual
theorem B6.read : ∀ (e : c8) (S : Nat → Prop) (cs : List Value), B6 w e S cs → (∀ b, S b → φ b) → L7 w φ e cs
 | ⟨_, _, ks⟩, S, _, ⟨v, xs, S', h1, h2, h3, h4, h5⟩, hs => ⟨v, xs, h1, y5 h2 fun g hg => hs g (h3 g hg).1, m8.read ks S' xs h5 fun b hb => hs b (h4 b hb)⟩
theorem m8.read : ∀ (ks : List c8) (S : Nat → Prop) (xs : List Value), m8 w ks S xs → (∀ b, S b → φ b) → v9 w φ ks xs
 | [], _, _, h, _ => h
 | e :: r, S, _, ⟨c, ys, S1, S2, h1, h2, h3, h4, h5⟩, hs => ⟨c, ys, h1, B6.read e S1 c h4 fun b hb => hs b (h2 b hb).1, m8.read r S2 ys h5 fun b hb => hs b (h3 b hb)⟩
end
theorem E1.read {v : Value} {ks : List c8} (h : E1 w v ks S) (hs : ∀ b, S b → φ b) : E0 w φ v ks := by
 obtain ⟨xs, T, h2, h3, h4, h5⟩ := h
 exact ⟨xs, y5 h2 fun g hg => hs g (h3 g hg).1, m8.read ks T xs h5 fun b hb => hs b (h4 b hb)⟩
mutual
theorem C7.read : ∀ (s : c6) (S : Nat → Prop) (cs : List Value), C7 w s S cs → (∀ b, S b → φ b) → K3 w φ s cs
 | ⟨_, _, _, _, _, b, e⟩, S, _, ⟨iv, vv, bv, ev, xb, xe, Si, Sv, Sb, Se, Sb', Se', h1, ⟨d1, d2, d3, d4⟩, h2, h3, ⟨b1, b2, b3, b4⟩, ⟨e1, e2, e3, e4⟩⟩, hs =>
  ⟨iv, vv, bv, ev, xb, xe, h1, h2.read fun b hb => hs b (d1 b hb).1, h3.read fun b hb => hs b (d2 b hb).1,
   y5 b1 fun g hg => hs g (d3 g (b2 g hg).1).1, m6.read b Sb' xb b4 fun x hx => hs x (d3 x (b3 x hx)).1,
   y5 e1 fun g hg => hs g (d4 g (e2 g hg).1), m6.read e Se' xe e4 fun x hx => hs x (d4 x (e3 x hx))⟩
theorem m6.read : ∀ (ss : List c6) (S : Nat → Prop) (xs : List Value), m6 w ss S xs → (∀ b, S b → φ b) → t9 w φ ss xs
 | [], _, _, h, _ => h
 | s :: r, S, _, ⟨c, ys, S1, S2, h1, h2, h3, h4, h5⟩, hs => ⟨c, ys, h1, C7.read s S1 c h4 fun b hb => hs b (h2 b hb).1, m6.read r S2 ys h5 fun b hb => hs b (h3 b hb)⟩
end
theorem F6.read {v : Value} {ss : List c6} (h : F6 w v ss S) (hs : ∀ b, S b → φ b) : E6 w φ v ss := by
 obtain ⟨xs, T, h2, h3, h4, h5⟩ := h
 exact ⟨xs, y5 h2 fun g hg => hs g (h3 g hg).1, m6.read ss T xs h5 fun b hb => hs b (h4 b hb)⟩
theorem am1.read {v : Value} {p : j8} (h : am1 w v p S) (hs : ∀ b, S b → φ b) : bj9 w φ v p := by
 obtain ⟨v1, v2, v3, S3, rfl, h1, h2, h3, d1, d2, d3⟩ := h
 exact ⟨v1, v2, v3, rfl, y5 h1 fun g hg => hs g (d1 g hg).1, y5 h2 fun g hg => hs g (d2 g hg).1, h3.read fun b hb => hs b (d3 b hb)⟩
def bK2 (R : World → (Nat → Prop) → Prop) (S : Nat → Prop) : World → (Nat → Prop) → Prop := fun w φ => R w S ∧ ∀ b, S b → b < w.heap.size ∧ φ b
theorem bK2.nice {R : World → (Nat → Prop) → Prop} (S : Nat → Prop) (hR : ∀ w w' : World, R w S → (∀ b, S b → b < w.heap.size → w'.heap[b]? = w.heap[b]?) → R w' S) : V9 (bK2 R S) :=
 fun w w' _ _ ha ⟨h1, h2⟩ => ⟨hR w w' h1 fun b hb hlt => (ha.2 b hlt (h2 b hb).2).2, fun b hb => ⟨Nat.lt_of_lt_of_le (h2 b hb).1 ha.1, (ha.2 b (h2 b hb).1 (h2 b hb).2).1⟩⟩
theorem m8.mono : ∀ {ks : List c8} {S S' : Nat → Prop} {xs : List Value}, m8 w ks S xs → (∀ b, S b → S' b) → m8 w ks S' xs
 | [], _, _, _, h, _ => h
 | _ :: _, _, _, _, ⟨c, ys, S1, S2, h1, h2, h3, h4, h5⟩, hs => ⟨c, ys, S1, S2, h1, fun b hb => ⟨hs b (h2 b hb).1, (h2 b hb).2⟩, fun b hb => hs b (h3 b hb), h4, h5⟩
theorem m6.mono : ∀ {ks : List c6} {S S' : Nat → Prop} {xs : List Value}, m6 w ks S xs → (∀ b, S b → S' b) → m6 w ks S' xs
 | [], _, _, _, h, _ => h
 | _ :: _, _, _, _, ⟨c, ys, S1, S2, h1, h2, h3, h4, h5⟩, hs => ⟨c, ys, S1, S2, h1, fun b hb => ⟨hs b (h2 b hb).1, (h2 b hb).2⟩, fun b hb => hs b (h3 b hb), h4, h5⟩
theorem m8.snoc : ∀ {ks : List c8} {S S' T : Nat → Prop} {xs c : List Value} {e : c8}, m8 w ks S xs → B6 w e T c → (∀ b, S b → S' b ∧ ¬ T b) → (∀ b, T b → S' b) → m8 w (ks ++ [e]) S' (xs ++ c)
 | [], S, S', T, xs, c, e, h, k, d, f => by
  rw [show xs = [] from h]
  exact ⟨c, [], T, fun _ => False, by simp, fun b hb => ⟨f b hb, fun h => h⟩, fun b hb => hb.elim, k, rfl⟩
 | a :: r, S, S', T, _, c, e, ⟨x, ys, S1, S2, h1, h2, h3, h4, h5⟩, k, d, f =>
  ⟨x, ys ++ c, S1, fun b => S2 b ∨ T b, by rw [h1, bV5], fun b hb => ⟨(d b (h2 b hb).1).1, fun h => h.elim (h2 b hb).2 (d b (h2 b hb).1).2⟩, fun b hb => hb.elim (fun h => (d b (h3 b h)).1) (f b), h4,
   m8.snoc h5 k (fun b hb => ⟨.inl hb, (d b (h3 b hb)).2⟩) fun b hb => .inr hb⟩
theorem m6.snoc : ∀ {ks : List c6} {S S' T : Nat → Prop} {xs c : List Value} {e : c6}, m6 w ks S xs → C7 w e T c → (∀ b, S b → S' b ∧ ¬ T b) → (∀ b, T b → S' b) → m6 w (ks ++ [e]) S' (xs ++ c)
 | [], S, S', T, xs, c, e, h, k, d, f => by
  rw [show xs = [] from h]
  exact ⟨c, [], T, fun _ => False, by simp, fun b hb => ⟨f b hb, fun h => h⟩, fun b hb => hb.elim, k, rfl⟩
 | a :: r, S, S', T, _, c, e, ⟨x, ys, S1, S2, h1, h2, h3, h4, h5⟩, k, d, f =>
  ⟨x, ys ++ c, S1, fun b => S2 b ∨ T b, by rw [h1, bV5], fun b hb => ⟨(d b (h2 b hb).1).1, fun h => h.elim (h2 b hb).2 (d b (h2 b hb).1).2⟩, fun b hb => hb.elim (fun h => (d b (h3 b h)).1) (f b), h4,
   m6.snoc h5 k (fun b hb => ⟨.inl hb, (d b (h3 b hb)).2⟩) fun b hb => .inr hb⟩
theorem B6.iff (e : c8) (S : Nat → Prop) (cs : List Value) : B6 w e S cs ↔ ∃ kv, cs = [.int .i64 e.kind, .int .i64 e.value, kv] ∧ E1 w kv e.kids S := by
 cases e with
 | mk k n ks => exact ⟨fun ⟨v, xs, T, h1, h2⟩ => ⟨v, h1, xs, T, h2⟩, fun ⟨v, h1, xs, T, h2⟩ => ⟨v, xs, T, h1, h2⟩⟩
theorem C7.iff (s : c6) (S : Nat → Prop) (cs : List Value) : C7 w s S cs ↔ ∃ (iv vv bv ev : Value) (Si Sv Sb Se : Nat → Prop), cs = [.int .i64 s.kind, .int .i64 s.target, .int .i64 s.index.kind, .int .i64 s.index.value, iv, .int .i64 s.value.kind, .int .i64 s.value.value, vv, .int .i64 s.count, bv, ev] ∧
  ((∀ b, Si b → S b ∧ ¬ Sv b ∧ ¬ Sb b ∧ ¬ Se b) ∧ (∀ b, Sv b → S b ∧ ¬ Sb b ∧ ¬ Se b) ∧ (∀ b, Sb b → S b ∧ ¬ Se b) ∧ (∀ b, Se b → S b)) ∧ E1 w iv s.index.kids Si ∧ E1 w vv s.value.kids Sv ∧ F6 w bv s.body Sb ∧ F6 w ev s.els Se := by
 cases s with
 | mk k t i v c b e =>
  exact ⟨fun ⟨iv, vv, bv, ev, xb, xe, Si, Sv, Sb, Se, Sb', Se', h1, h2, h3, h4, h5, h6⟩ => ⟨iv, vv, bv, ev, Si, Sv, Sb, Se, h1, h2, h3, h4, ⟨xb, Sb', h5⟩, ⟨xe, Se', h6⟩⟩,
   fun ⟨iv, vv, bv, ev, Si, Sv, Sb, Se, h1, h2, h3, h4, ⟨xb, Sb', h5⟩, ⟨xe, Se', h6⟩⟩ => ⟨iv, vv, bv, ev, xb, xe, Si, Sv, Sb, Se, Sb', Se', h1, h2, h3, h4, h5, h6⟩⟩
end
theorem N5 (us : List Value) : ∀ (c ys : List Value) (p : Nat), c.length ≤ p → setFrom (c ++ ys) p us = c ++ setFrom ys (p - c.length) us := by
 induction us with
 | nil => intro c ys p _; rfl
 | cons u r ih =>
  intro c ys p hp
  simp only [setFrom]
  rw [List.set_append_right _ _ hp, ih _ _ _ (by omega), show p + 1 - c.length = p - c.length + 1 by omega]
theorem O9 (us : List Value) : ∀ (c ys : List Value) (p : Nat), p + us.length ≤ c.length → setFrom (c ++ ys) p us = setFrom c p us ++ ys := by
 induction us with
 | nil => intro c ys p _; rfl
 | cons u r ih =>
  intro c ys p hp
  simp only [bS1] at hp
  simp only [setFrom]
  rw [List.set_append_left _ _ (by omega), ih _ _ _ (by simp; omega)]
theorem ac3 {c us : List Value} (h : us.length = c.length) : setFrom c 0 us = us := by
 have h1 := af7 us c 0 (by omega)
 rw [bV1, bT9 (by rw [D7]; omega)] at h1
 simpa using h1
theorem B6.len {w : World} {e : c8} {S : Nat → Prop} {c : List Value} (h : B6 w e S c) : c.length = 3 := by
 obtain ⟨kv, rfl, _⟩ := (B6.iff e S c).1 h; rfl
theorem C7.len {w : World} {s : c6} {S : Nat → Prop} {c : List Value} (h : C7 w s S c) : c.length = 11 := by
 obtain ⟨_, _, _, _, _, _, _, _, rfl, _⟩ := (C7.iff s S c).1 h; rfl
theorem m8.focus {w : World} : ∀ {ls : List c8} {S : Nat → Prop} {xs : List Value}, m8 w ls S xs → ∀ (i : Nat) (hi : i < ls.length), ∃ (c : List Value) (Sc : Nat → Prop), B6 w ls[i] Sc c ∧ (∀ b, Sc b → S b) ∧ (∀ j, j < 3 → xs[i * 3 + j]? = c[j]?) ∧
  ∀ (w' : World) (e' : c8) (c' : List Value), (∀ b, S b → ¬ Sc b → b < w.heap.size → w'.heap[b]? = w.heap[b]?) → B6 w' e' Sc c' → m8 w' (ls.set i e') S (setFrom xs (i * 3) c')
 | [], _, _, _, i, hi => by simp at hi
 | e :: r, S, xs, ⟨c, ys, S1, S2, h1, h2, h3, h4, h5⟩, i, hi => by
  have hc := h4.len
  subst h1
  cases i with
  | zero =>
   refine ⟨c, S1, h4, fun b hb => (h2 b hb).1, fun j hj => by rw [bT3 (by omega)]; simp, fun w' e' c' hs hO => ?_⟩
   refine ⟨c', ys, S1, S2, ?_, h2, h3, hO, m8.same r S2 ys h5 fun b hb hlt => hs b (h3 b hb) (fun h => (h2 b h).2 hb) hlt⟩
   rw [Nat.zero_mul, O9 c' c ys 0 (by rw [hO.len]; omega), ac3 (by rw [hO.len, hc])]
  | succ i =>
   obtain ⟨d, Sc, k1, k2, k3, k4⟩ := m8.focus h5 i (by simpa using hi)
   refine ⟨d, Sc, k1, fun b hb => h3 b (k2 b hb), fun j hj => ?_, fun w' e' c' hs hO => ?_⟩
   ·rw [List.getElem?_append_right (by rw [hc, bT7]; omega), ← k3 j hj]
    congr 1
    rw [hc, bT7]; omega
   ·refine ⟨c, setFrom ys (i * 3) c', S1, S2, ?_, h2, h3, B6.same e S1 c h4 fun b hb hlt => hs b (h2 b hb).1 (fun h => (h2 b hb).2 (k2 b h)) hlt, k4 w' e' c' (fun b hb hn hlt => hs b (h3 b hb) hn hlt) hO⟩
    rw [N5 c' c ys _ (by rw [hc, bT7]; omega), hc, bT7, Nat.add_sub_cancel]
theorem m6.focus {w : World} : ∀ {ls : List c6} {S : Nat → Prop} {xs : List Value}, m6 w ls S xs → ∀ (i : Nat) (hi : i < ls.length), ∃ (c : List Value) (Sc : Nat → Prop), C7 w ls[i] Sc c ∧ (∀ b, Sc b → S b) ∧ (∀ j, j < 11 → xs[i * 11 + j]? = c[j]?) ∧
  ∀ (w' : World) (e' : c6) (c' : List Value), (∀ b, S b → ¬ Sc b → b < w.heap.size → w'.heap[b]? = w.heap[b]?) → C7 w' e' Sc c' → m6 w' (ls.set i e') S (setFrom xs (i * 11) c')
 | [], _, _, _, i, hi => by simp at hi
 | e :: r, S, xs, ⟨c, ys, S1, S2, h1, h2, h3, h4, h5⟩, i, hi => by
  have hc := h4.len
  subst h1
  cases i with
  | zero =>
   refine ⟨c, S1, h4, fun b hb => (h2 b hb).1, fun j hj => by rw [bT3 (by omega)]; simp, fun w' e' c' hs hO => ?_⟩
   refine ⟨c', ys, S1, S2, ?_, h2, h3, hO, m6.same r S2 ys h5 fun b hb hlt => hs b (h3 b hb) (fun h => (h2 b h).2 hb) hlt⟩
   rw [Nat.zero_mul, O9 c' c ys 0 (by rw [hO.len]; omega), ac3 (by rw [hO.len, hc])]
  | succ i =>
   obtain ⟨d, Sc, k1, k2, k3, k4⟩ := m6.focus h5 i (by simpa using hi)
   refine ⟨d, Sc, k1, fun b hb => h3 b (k2 b hb), fun j hj => ?_, fun w' e' c' hs hO => ?_⟩
   ·rw [List.getElem?_append_right (by rw [hc, bT7]; omega), ← k3 j hj]
    congr 1
    rw [hc, bT7]; omega
   ·refine ⟨c, setFrom ys (i * 11) c', S1, S2, ?_, h2, h3, C7.same e S1 c h4 fun b hb hlt => hs b (h2 b hb).1 (fun h => (h2 b hb).2 (k2 b h)) hlt, k4 w' e' c' (fun b hb hn hlt => hs b (h3 b hb) hn hlt) hO⟩
    rw [N5 c' c ys _ (by rw [hc, bT7]; omega), hc, bT7, Nat.add_sub_cancel]
section
variable {φ ψ : Nat → Prop} {w0 w w' : World} {L : List X5}
theorem m8.at : ∀ {ks : List c8} {S : Nat → Prop} {xs : List Value}, m8 w ks S xs → ∀ (i : Nat) (hi : i < ks.length), ∃ kv, xs[i * 3]? = some (.int .i64 ks[i].kind) ∧ xs[i * 3 + 1]? = some (.int .i64 ks[i].value) ∧ xs[i * 3 + 2]? = some kv ∧ E1 w kv ks[i].kids S
 | [], _, _, _, i, hi => by simp at hi
 | e :: r, S, _, ⟨c, ys, S1, S2, h1, h2, h3, h4, h5⟩, i, hi => by
  obtain ⟨kv, rfl, hk⟩ := (B6.iff e S1 c).1 h4
  subst h1
  cases i with
  | zero => exact ⟨kv, rfl, rfl, rfl, hk.mono fun b hb => (h2 b hb).1⟩
  | succ i =>
   obtain ⟨kv', a, b, d, f⟩ := m8.at h5 i (by simpa using hi)
   refine ⟨kv', ?_, ?_, ?_, f.mono h3⟩ <;> (rw [bT7]; simpa [Nat.add_assoc] using by assumption)
theorem E1.open {v : Value} {ks : List c8} {S : Nat → Prop} (h : E1 w v ks S) : ∃ a cap, v = .slice a ks.length cap ∧ ks.length ≤ cap ∧ ks.length ≤ 9223372036854775807 ∧ cap ≤ 9223372036854775807 ∧
  ∀ i (hi : i < ks.length), ∃ b off kv, a = some ⟨b, off, none⟩ ∧ b < w.heap.size ∧ S b ∧ w.cell? ⟨b, off + i * 3, none⟩ = some (.int .i64 ks[i].kind) ∧ w.cell? ⟨b, off + i * 3 + 1, none⟩ = some (.int .i64 ks[i].value) ∧ w.cell? ⟨b, off + i * 3 + 2, none⟩ = some kv ∧ E1 w kv ks[i].kids S := by
 obtain ⟨xs, S', h2, h3, h4, h5⟩ := h
 obtain ⟨hl, a, cap, hv, n1, n2, n3⟩ := y5 (φ := fun g => S g ∧ ¬ S' g) h2 h3
 unfold maxLen at n2
 refine ⟨a, cap, hv, n1, by omega, by omega, fun i hi => ?_⟩
 obtain ⟨b, off, he, hb, hf, hc⟩ := n3 (by omega)
 obtain ⟨kv, e0, e1, e2, hk⟩ := h5.at i hi
 exact ⟨b, off, kv, he, hb, hf.1, hc _ _ e0, hc _ _ e1, hc _ _ e2, hk.mono h4⟩
theorem E1.nil (w : World) (S : Nat → Prop) : E1 w (.slice none 0 0) [] S := ⟨[], fun _ => False, World.ownsRow_nil _ _ _ _, (fun g hg => by cases hg), fun _ h => h.elim, rfl⟩
end
theorem Y4 (us : List Value) : ∀ (ys : List Value) (p q : Nat), p + us.length ≤ ys.length → (setFrom ys p us)[q]? = if p ≤ q ∧ q < p + us.length then us[q - p]? else ys[q]? := by
 induction us with
 | nil => intro ys p q _; simp only [setFrom, bS6]; split; omega; rfl
 | cons u r ih =>
  intro ys p q h
  simp only [bS1] at h
  simp only [setFrom, bS1]
  rw [ih _ _ _ (by simp; omega)]
  by_cases h1 : q = p
  ·subst h1
   rw [if_neg (by omega), if_pos (by omega), List.getElem?_set_self (by omega), Nat.sub_self]; rfl
  ·by_cases h2 : p + 1 ≤ q ∧ q < p + 1 + r.length
   ·rw [if_pos h2, if_pos (by omega), show q - p = q - (p + 1) + 1 by omega]; rfl
   ·rw [if_neg h2, if_neg (by omega), List.getElem?_set_ne (by omega)]
theorem af8 {xs cs : List Value} {p : Nat} (h : p + cs.length ≤ xs.length) (hc : ∀ j, j < cs.length → xs[p + j]? = cs[j]?) : setFrom xs p cs = xs := by
 apply List.ext_getElem?
 intro q
 rw [Y4 _ _ _ _ h]
 split
 ·rename_i h1
  rw [← hc _ (by omega)]; congr 1; omega
 ·rfl
theorem al5 {xs cs : List Value} {p k : Nat} (u : Value) (h : p + cs.length ≤ xs.length) (hk : k < cs.length) : (setFrom xs p cs).set (p + k) u = setFrom xs p (cs.set k u) := by
 apply List.ext_getElem?
 intro q
 rw [Y4 _ _ _ _ (by simpa using h), List.getElem?_set, Y4 _ _ _ _ h, D7, bU7]
 by_cases h1 : p + k = q
 ·subst h1
  rw [if_pos rfl, if_pos (by omega), if_pos (by omega), Nat.add_sub_cancel_left, List.getElem?_set_self hk]
 ·rw [if_neg h1]
  split
  ·rw [List.getElem?_set_ne (by omega)]
  ·rfl
section
variable {w : World}
mutual
theorem B6.cut : ∀ (e : c8) (S : Nat → Prop) (cs : List Value), B6 w e S cs → B6 w e (fun b => S b ∧ b < w.heap.size) cs
 | ⟨_, _, ks⟩, _, _, ⟨v, xs, S', h1, h2, h3, h4, h5⟩ => ⟨v, xs, fun b => S' b ∧ b < w.heap.size, h1, h2, fun g hg => ⟨⟨(h3 g hg).1, (World.ownsRow.lt h2 g hg).2⟩, fun h => (h3 g hg).2 h.1⟩, fun b hb => ⟨h4 b hb.1, hb.2⟩, m8.cut ks S' xs h5⟩
theorem m8.cut : ∀ (ks : List c8) (S : Nat → Prop) (xs : List Value), m8 w ks S xs → m8 w ks (fun b => S b ∧ b < w.heap.size) xs
 | [], _, _, h => h
 | e :: r, _, _, ⟨c, ys, S1, S2, h1, h2, h3, h4, h5⟩ => ⟨c, ys, fun b => S1 b ∧ b < w.heap.size, fun b => S2 b ∧ b < w.heap.size, h1, fun b hb => ⟨⟨(h2 b hb.1).1, hb.2⟩, fun h => (h2 b hb.1).2 h.1⟩, fun b hb => ⟨h3 b hb.1, hb.2⟩, B6.cut e S1 c h4, m8.cut r S2 ys h5⟩
end
theorem E1.cut {v : Value} {ks : List c8} {S : Nat → Prop} (h : E1 w v ks S) : E1 w v ks (fun b => S b ∧ b < w.heap.size) := by
 obtain ⟨xs, S', h2, h3, h4, h5⟩ := h
 exact ⟨xs, fun b => S' b ∧ b < w.heap.size, h2, fun g hg => ⟨⟨(h3 g hg).1, (World.ownsRow.lt h2 g hg).2⟩, fun h => (h3 g hg).2 h.1⟩, fun b hb => ⟨h4 b hb.1, hb.2⟩, m8.cut ks S' xs h5⟩
mutual
theorem C7.cut : ∀ (s : c6) (S : Nat → Prop) (cs : List Value), C7 w s S cs → C7 w s (fun b => S b ∧ b < w.heap.size) cs
 | ⟨_, _, _, _, _, b, e⟩, _, _, ⟨iv, vv, bv, ev, xb, xe, Si, Sv, Sb, Se, Sb', Se', h1, ⟨d1, d2, d3, d4⟩, h2, h3, ⟨b1, b2, b3, b4⟩, ⟨e1, e2, e3, e4⟩⟩ =>
  ⟨iv, vv, bv, ev, xb, xe, fun b => Si b ∧ b < w.heap.size, fun b => Sv b ∧ b < w.heap.size, fun b => Sb b ∧ b < w.heap.size, fun b => Se b ∧ b < w.heap.size, fun b => Sb' b ∧ b < w.heap.size, fun b => Se' b ∧ b < w.heap.size, h1,
   ⟨fun b hb => ⟨⟨(d1 b hb.1).1, hb.2⟩, fun h => (d1 b hb.1).2.1 h.1, fun h => (d1 b hb.1).2.2.1 h.1, fun h => (d1 b hb.1).2.2.2 h.1⟩, fun b hb => ⟨⟨(d2 b hb.1).1, hb.2⟩, fun h => (d2 b hb.1).2.1 h.1, fun h => (d2 b hb.1).2.2 h.1⟩,
    fun b hb => ⟨⟨(d3 b hb.1).1, hb.2⟩, fun h => (d3 b hb.1).2 h.1⟩, fun b hb => ⟨d4 b hb.1, hb.2⟩⟩, h2.cut, h3.cut,
   ⟨b1, fun g hg => ⟨⟨(b2 g hg).1, (World.ownsRow.lt b1 g hg).2⟩, fun h => (b2 g hg).2 h.1⟩, fun b hb => ⟨b3 b hb.1, hb.2⟩, m6.cut b Sb' xb b4⟩,
   ⟨e1, fun g hg => ⟨⟨(e2 g hg).1, (World.ownsRow.lt e1 g hg).2⟩, fun h => (e2 g hg).2 h.1⟩, fun b hb => ⟨e3 b hb.1, hb.2⟩, m6.cut e Se' xe e4⟩⟩
theorem m6.cut : ∀ (ks : List c6) (S : Nat → Prop) (xs : List Value), m6 w ks S xs → m6 w ks (fun b => S b ∧ b < w.heap.size) xs
 | [], _, _, h => h
 | e :: r, _, _, ⟨c, ys, S1, S2, h1, h2, h3, h4, h5⟩ => ⟨c, ys, fun b => S1 b ∧ b < w.heap.size, fun b => S2 b ∧ b < w.heap.size, h1, fun b hb => ⟨⟨(h2 b hb.1).1, hb.2⟩, fun h => (h2 b hb.1).2 h.1⟩, fun b hb => ⟨h3 b hb.1, hb.2⟩, C7.cut e S1 c h4, m6.cut r S2 ys h5⟩
end
theorem F6.cut {v : Value} {ks : List c6} {S : Nat → Prop} (h : F6 w v ks S) : F6 w v ks (fun b => S b ∧ b < w.heap.size) := by
 obtain ⟨xs, S', h2, h3, h4, h5⟩ := h
 exact ⟨xs, fun b => S' b ∧ b < w.heap.size, h2, fun g hg => ⟨⟨(h3 g hg).1, (World.ownsRow.lt h2 g hg).2⟩, fun h => (h3 g hg).2 h.1⟩, fun b hb => ⟨h4 b hb.1, hb.2⟩, m6.cut ks S' xs h5⟩
end
section
variable {φ ψ : Nat → Prop} {w0 w : World} {L : List X5}
end
section
variable {P : Program}
structure U5 (wr w : World) (S : Nat → Prop) : Prop where
 below : Below wr.heap.size wr w
 box : ∀ b, S b → wr.heap.size ≤ b ∧ b < w.heap.size
theorem U5.start (w : World) : U5 w w.drew fun _ => False := ⟨(Below.refl _ _).drew, fun _ h => h.elim⟩
theorem U5.call {wr w w' : World} {S : Nat → Prop} (h : U5 wr w S) (b : Below w.heap.size w w') : U5 wr w' S := ⟨h.below.trans (b.mono h.below.size), fun c hc => ⟨(h.box c hc).1, Nat.lt_of_lt_of_le (h.box c hc).2 b.size⟩⟩
theorem U5.new {wr w w' : World} {S : Nat → Prop} (h : U5 wr w S) (b : Below w.heap.size w w') (hs : w.heap.size < w'.heap.size) : U5 wr w' fun c => S c ∨ c = w.heap.size :=
 ⟨h.below.trans (b.mono h.below.size), fun c hc => by
  rcases hc with hc | rfl
  ·exact ⟨(h.box c hc).1, Nat.lt_of_lt_of_le (h.box c hc).2 b.size⟩
  ·exact ⟨h.below.size, hs⟩⟩
def RF (φ S : Nat → Prop) (b : Nat) : Prop := φ b ∧ ¬ S b
theorem U5.fresh {wr w : World} {S φ : Nat → Prop} (h : U5 wr w S) (hf : ∀ b, wr.heap.size ≤ b → φ b) : ∀ b, w.heap.size ≤ b → RF φ S b := fun b hb => ⟨hf b (bT4 h.below.size hb), fun hs => by have := (h.box b hs).2; omega⟩
theorem U5.old {wr w : World} {S φ : Nat → Prop} (h : U5 wr w S) {R : World → (Nat → Prop) → Prop} (hn : V9 R) (hr : R wr φ) : R w (RF φ S) :=
 hn _ _ _ _ ⟨h.below.size, fun b hb hf => ⟨⟨hf, fun hs => by have := (h.box b hs).1; omega⟩, h.below.block b hb⟩⟩ hr
end
theorem H7.region {φ ψ : Nat → Prop} {w0 wr w : World} {L : List X5} {S : Nat → Prop} (M : H7 φ ψ w0 wr L) (hg : U5 wr w S) {g : Nat} {cs : List Value} (hb : C2 w g cs) (hs : S g) : H7 φ ψ w0 w (L ++ [.box g cs]) :=
 M.add hg.below _ hb fun g' h => by cases h; exact (hg.box _ hs).1
theorem RF.app {φ S : Nat → Prop} {L : List X5} {b : Nat} (h : RF (Fr φ L) S b) (X : List X5) (hX : ∀ r ∈ X, ∀ g, r.blk g → S g) : Fr φ (L ++ X) b :=
 ⟨h.1.1, fun r hr he => by
  rcases bS7.1 hr with hr | hr
  ·exact h.1.2 r hr he
  ·exact h.2 (hX r hr b he)⟩
section
variable {P : Program}
def Z9 (ops : Array Oper) : Bool := (bS8 ops.size).all fun j => (ops[j]?).any fun o => o.after.all fun e => !Region.binds .any e || decide (e.on < j)
theorem av4 {ops : Array Oper} (hb : Z9 ops = true) {k : Nat} {o : Oper} (hk : k < ops.size) (ho : ops[k]? = some o) {e : Edge} (he : e ∈ o.after) (hbi : Region.binds .any e = true) : e.on < k := by
 have h1 := bS2.1 hb k (bU9.2 hk)
 rw [ho] at h1
 simp only [Option.any_some] at h1
 have h2 := Array.all_eq_true'.1 h1 e he
 rw [hbi] at h2
 simpa using h2
theorem aI7 {ops : Array Oper} (hb : Z9 ops = true) {listed : Array Bool} (hsz : listed.size = ops.size) : ∀ k, k < ops.size → listed.getD k true = false → Region.ready .any ops listed ≠ [] := by
 intro k
 induction k using Nat.strongRecOn with
 | _ k ih =>
  intro hk hl hn
  by_cases hall : ∃ j, j < k ∧ listed.getD j true = false
  ·obtain ⟨j, hj, hlj⟩ := hall
   exact ih j hj (by omega) hlj hn
  ·have hok : ops[k]? = some ops[k] := Array.getElem?_eq_getElem hk
   have : k ∈ Region.ready .any ops listed := by
    refine mem_ready.2 ⟨hl, ops[k], hok, fun e he hbi => ?_⟩
    have h2 := av4 hb hk hok he hbi
    cases h3 : listed.getD e.on true
    ·exact absurd ⟨e.on, h2, h3⟩ hall
    ·have : e.on < listed.size := by omega
     simp [this] at h3 ⊢
     exact h3
   rw [hn] at this
   cases this
theorem a09 {a : Array Bool} {j : Nat} (h : j < a.size) : a.getD j true = a.getD j false := by simp [h]
end
end Go.Proofs.Ytmokkddidcmglaa

namespace Go.Proofs.Ytmokkddidcmglaa
def r8 (k : Int) : Int := if k = 1 ∨ k = 2 then 0 else if k = 3 then 1 else if 4 ≤ k ∧ k ≤ 10 then 2 else if k = 11 then 3 else -1
def ac4 (nv na : Nat) (k : Int) : Int := if k = 1 then 256 else if k = 2 then nv else if k = 3 then na else 1
def P1 (e : c8) : Bool := decide (e.kind = 1) || decide (e.kind = 2)
def ag6 (nv na : Nat) (e : c8) : Bool := decide ((e.kids.length : Int) = r8 e.kind) && decide (0 ≤ e.value) && decide (e.value < ac4 nv na e.kind)
def aZ1 (e : c8) : Bool := decide (e.kind ≠ 3) || (match e.kids with | k :: _ => P1 k | [] => false)
def l7 (nv na : Nat) : Nat → c8 → Bool
 | 0, _ => false
 | d + 1, e => ag6 nv na e && e.kids.all (l7 nv na d) && aZ1 e
def X7 : Nat → c8 → Nat
 | 0, _ => 1
 | d + 1, e => 1 + (e.kids.map (X7 d)).sum
def n9 (nv na : Nat) (e : c8) : Bool := l7 nv na 5 e && decide (1 + O2 e ≤ 15)
theorem aq0 (e : c8) : O2 e = K7 e.kids := by cases e; rfl
theorem aM9 (nv na : Nat) : ∀ (d : Nat) (e : c8), l7 nv na d e = true → X7 d e = 1 + O2 e := by
 intro d
 induction d with
 | zero => intro e h; simp [l7] at h
 | succ d ih =>
  intro e h
  simp only [l7, bR6, bS2] at h
  rw [X7, aq0]
  have key : ∀ ks : List c8, (∀ e ∈ ks, l7 nv na d e = true) → (ks.map (X7 d)).sum = K7 ks := by
   intro ks
   induction ks with
   | nil => intro _; rfl
   | cons a r ihr => intro hk; rw [bU0, List.sum_cons, K7, ihr fun e he => hk e (bU4 _ he), ih a (hk a bU5)]
  rw [key _ h.1.2]
theorem aQ5 (nv na : Nat) (e : c8) : n9 nv na e = (l7 nv na 5 e && decide (X7 5 e ≤ 15)) := by
 unfold n9
 cases h : l7 nv na 5 e
 ·rfl
 ·rw [aM9 nv na 5 e h]
def noneB (e : c8) : Bool := decide (e.kind = 0) && decide (e.value = 0) && decide (e.kids.length = 0)
def n4 (s : c6) : Bool :=
 if (s.kind = 3 ∨ s.kind = 4) then
  decide (s.target = 0) && (if s.kind = 4 then decide (s.els.length = 0) && decide (1 ≤ s.count) && decide (s.count ≤ 3) && noneB s.index && noneB s.value
   else decide (s.count = 0) && noneB s.index)
 else decide (s.body.length = 0) && decide (s.els.length = 0) && decide (s.count = 0) && (decide (s.kind = 2) || noneB s.index)
def l6 (nv na : Nat) : Nat → c6 → Bool
  | 0, _ => false
  | d + 1, s => n4 s &&
    (if s.kind = 1 ∨ s.kind = 5 then decide (0 ≤ s.target) && decide (s.target < nv) && n9 nv na s.value
     else if s.kind = 2 then decide (0 ≤ s.target) && decide (s.target < na) && n9 nv na s.index && P1 s.index && n9 nv na s.value
     else if s.kind = 3 then n9 nv na s.value && s.body.all (l6 nv na d) && s.els.all (l6 nv na d)
     else if s.kind = 4 then s.body.all (l6 nv na d)
     else false)
def Z8 (nv na : Nat) (d : Nat) (ss : List c6) : Bool := ss.all (l6 nv na d)
mutual
def nS : c6 → Nat
 | ⟨_, _, _, _, _, b, e⟩ => 1 + nSs b + nSs e
def nSs : List c6 → Nat
 | [] => 0
 | s :: r => nS s + nSs r
end
def B5 (p : j8) : Bool := D4 p.vars p.arrays && Z8 p.vars.length p.arrays.length 5 p.body && decide (nSs p.body ≤ 60)
end Go.Proofs.Ytmokkddidcmglaa

namespace Go.Proofs.Ytmokkddidcmglaa
open Go Go.RowKit
theorem X0 (l : Int) (w : World) : Calls Try.prog 107 #[.int .i64 l] w fun e w' => e = .returned (.bool (A7 l)) ∧ w = w' := by
 go_enter Try.func107, Try.ntmps107
 go_wp2
 all_goals go_ret
 all_goals exact ⟨o0 (by simp [A7]; try omega), rfl⟩
theorem aC2 (v1 v2 v3 : Value) (n1 n2 : Nat) (x1 x2 : List Value) (w : World) (h1 : H4 w v1 n1 1 x1) (h2 : H4 w v2 n2 1 x2) :
  Calls Try.prog 56 #[.agg #[v1, v2, v3]] w fun e w' => e = .returned (.agg #[v1, v2, .slice none 0 0]) ∧ Below w.heap.size w w' := by
 obtain ⟨a1, k1, rfl⟩ := h1.form
 obtain ⟨a2, k2, rfl⟩ := h2.form
 clear h1 h2
 go_enter Try.func56, Try.ntmps56
 go_wp2
 go_returns
 exact ⟨rfl, by go_grown⟩
theorem af5 (v1 v2 v3 : Value) (vars arrays : List Int) (w : World) (h1 : H4 w v1 vars.length 1 (ints vars)) (h2 : H4 w v2 arrays.length 1 (ints arrays)) :
  Calls Try.prog 73 #[.agg #[v1, v2, v3]] w fun e w' => e = .returned (.bool (D4 vars arrays)) ∧ Below w.heap.size w w' := by
 have B0 : Below w.heap.size w (w.alloc (.cells #[v1, v2, v3] 26)) := by go_grown
 obtain ⟨a1, c1, rfl, -, hm1, -, hc1⟩ := (h1.below B0).open1
 obtain ⟨a2, c2, rfl, -, hm2, -, hc2⟩ := (h2.below B0).open1
 have HT : Hid (D4 vars arrays = (vars.all A7 && arrays.all A7 && decide (1 ≤ vars.length) && decide (vars.length ≤ 12) && decide (arrays.length ≤ 2))) := rfl
 clear h1 h2
 go_enter Try.func73, Try.ntmps73
 go_wp2_with fail
 go_loop [3] (fun i => ∃ k : Nat, k ≤ vars.length ∧ i = .int .i64 k ∧ (vars.take k).all A7 = true) (fun i => vars.length - (intOf i).toNat)
 case atStart => exact ⟨0, bU8 _, rfl, rfl⟩
 case round =>
  obtain ⟨k, hk, rfl, ha⟩ := hrel
  have HA := show Hid _ from ha
  clear ha
  by_cases hlt : k < vars.length
  ·obtain ⟨b1, o1, rfl, hb1, hx⟩ := hc1 k hlt
   rw [as8 _ _ hlt] at hx
   have HS := show Hid _ from N1 A7 vars k hlt
   clear hc1 hc2
   cases hl : A7 vars[k]
   all_goals
    have HL := show Hid _ from hl
    clear hl
    go_wp2_with fail
    refine (X0 _ _).mono ?_
    rintro e w1 ⟨rfl, rfl⟩
    rw [HL.out]
    go_wp2_with fail
   ·go_ret
    exact ⟨o0 (by rw [HT.out, ag5 hlt HL.out]; rfl), B0⟩
   ·go_round
    case rel => exact ⟨k + 1, by omega, by go_num, by rw [HS.out, HA.out, HL.out]; rfl⟩
    case measure => simp [intOf]; omega
  ·have HA' := show Hid (vars.all A7 = true) from by have := HA.out; rwa [bT9 (by omega)] at this
   clear HA hc1
   go_wp2_with fail
   go_loop [4] (fun i => ∃ k : Nat, k ≤ arrays.length ∧ i = .int .i64 k ∧ (arrays.take k).all A7 = true) (fun i => arrays.length - (intOf i).toNat)
   case atStart => exact ⟨0, bU8 _, rfl, rfl⟩
   case round =>
    obtain ⟨j, hj, rfl, ha⟩ := hrel
    have HB := show Hid _ from ha
    clear ha
    by_cases hlj : j < arrays.length
    ·obtain ⟨b1, o1, rfl, hb1, hx⟩ := hc2 j hlj
     rw [as8 _ _ hlj] at hx
     have HS := show Hid _ from N1 A7 arrays j hlj
     clear hc2
     cases hl : A7 arrays[j]
     all_goals
      have HL := show Hid _ from hl
      clear hl
      go_wp2_with fail
      refine (X0 _ _).mono ?_
      rintro e w1 ⟨rfl, rfl⟩
      rw [HL.out]
      go_wp2_with fail
     ·go_ret
      exact ⟨o0 (by rw [HT.out, ag5 hlj HL.out]; simp), B0⟩
     ·go_round
      case rel => exact ⟨j + 1, by omega, by go_num, by rw [HS.out, HB.out, HL.out]; rfl⟩
      case measure => simp [intOf]; omega
    ·have HB' := show Hid (arrays.all A7 = true) from by have := HB.out; rwa [bT9 (by omega)] at this
     clear HB hc2
     go_wp2_with fail
     all_goals go_ret
     all_goals refine ⟨o0 ?_, B0⟩
     all_goals rw [HT.out, HA'.out, HB'.out]
     all_goals rw [bT5]
     all_goals simp
     all_goals omega
theorem aB9 (v1 v2 v3 : Value) (c : d7) (kd : UInt8) (n : Int) (w : World) (h1 : H4 w v1 c.vars.length 1 (ints c.vars)) (h2 : H4 w v2 c.arrays.length 1 (ints c.arrays)) (h3 : aj9 w v3 c.list) :
  Calls Try.prog 126 #[.agg #[v1, v2, v3], .int .u8 kd.toNat, .int .i64 n] w fun e w' => e = .returned (.bool (J9 c kd n)) ∧ Below w.heap.size w w' := by
 obtain ⟨a1, k1, rfl, -, q1, -, -⟩ := h1.open1
 obtain ⟨a2, k2, rfl, -, q2, -, -⟩ := h2.open1
 obtain ⟨a3, k3, rfl, -, q3, -, -⟩ := h3.open
 have hk : kd.toNat < 256 := kd.toNat_lt
 have HK : ∀ m : UInt8, (kd = m) = ((kd.toNat : Int) = (m.toNat : Int)) := fun m => by
  rw [eq_iff_iff]
  constructor
  ·rintro rfl; rfl
  ·intro h; exact UInt8.toNat_inj.1 (by omega)
 have HK' := show Hid _ from HK
 clear HK h1 h2 h3
 obtain ⟨z, hz⟩ : ∃ z, z = kd.toNat := ⟨_, rfl⟩
 rw [← hz] at hk ⊢
 have HZ := show Hid _ from hz
 clear hz
 go_enter Try.func126, Try.ntmps126
 go_wp2_with fail
 all_goals go_ret
 all_goals refine ⟨o0 ?_, by go_grown⟩
 all_goals unfold J9
 all_goals simp only [HK'.out, ← HZ.out, show (UInt8.toNat 114) = 114 from rfl, show (UInt8.toNat 99) = 99 from rfl, show (UInt8.toNat 118) = 118 from rfl, show (UInt8.toNat 97) = 97 from rfl, show (UInt8.toNat 111) = 111 from rfl]
 all_goals clear HK' HZ hk q1 q2 q3
 all_goals simp_all
 all_goals omega
theorem ac2 (op : Int) (w : World) (h1 : 1 ≤ op) (h2 : op ≤ 13) :
  Calls Try.prog 124 #[.int .i64 op] w fun e w' => e = .returned (.string ⟨(e6 op).toArray⟩) ∧ Below w.heap.size w w' := by
 have h : op = 1 ∨ op = 2 ∨ op = 3 ∨ op = 4 ∨ op = 5 ∨ op = 6 ∨ op = 7 ∨ op = 8 ∨ op = 9 ∨ op = 10 ∨ op = 11 ∨ op = 12 ∨ op = 13 := by omega
 clear h1 h2
 rcases h with rfl | rfl | rfl | rfl | rfl | rfl | rfl | rfl | rfl | rfl | rfl | rfl | rfl
 all_goals
  go_enter Try.func124, Try.ntmps124
  go_wp2_with fail
  go_ret
  exact ⟨by simp [e6], by go_grown⟩
theorem aC0 (x : c7) (w : World) :
  Calls Try.prog 125 #[x.v] w fun e w' => ∃ u, e = .returned u ∧ A9 w' w.heap.size w'.heap.size 3 1 u 4 (ints [x.a, x.b, x.c, x.d]) ∧ Below w.heap.size w w' := by
 obtain ⟨x0, x1, x2, x3, x4⟩ := x
 go_enter Try.func125, Try.ntmps125
 go_wp2_with fail
 go_ret
 refine ⟨_, rfl, (y6 _ #[.int .i64 x1, .int .i64 x2, .int .i64 x3, .int .i64 x4] 4 1 _ (by simp) rfl (by omega)).wide (by simp) (by simp), by go_grown⟩
theorem a36 {e : c8} (h3 : e.kind = 3) (hl : 0 < e.kids.length) : aZ1 e = (decide (e.kids[0].kind = 1) || decide (e.kids[0].kind = 2)) := by
 rcases e with ⟨k, n, ks⟩
 cases ks with
 | nil => simp [c8.kids] at hl
 | cons a r =>
  have h3' : k = 3 := h3
  subst h3'
  simp only [aZ1, c8.kids, List.getElem_cons_zero, P1]
  rw [decide_eq_false (by simp [c8.kind])]
  rfl
theorem ae2 {nv na d : Nat} {e : c8} (h : l7 nv na (d + 1) e = true) : e.kids.length ≤ 3 ∧ ∀ x ∈ e.kids, l7 nv na d x = true := by
 simp only [l7, ag6, bR6, decide_eq_true_eq, bS2] at h
 refine ⟨?_, h.1.2⟩
 have h1 := h.1.1.1.1
 have : r8 e.kind ≤ 3 := by unfold r8; (repeat' split) <;> omega
 omega
theorem aP4 {ks : List c8} {B : Nat} (h : ∀ x ∈ ks, 1 + O2 x ≤ B) : K7 ks ≤ ks.length * B := by
 induction ks with
 | nil => simp [K7]
 | cons a r ih =>
  have h1 := h a bU5
  have h2 := ih fun x hx => h x (bU4 _ hx)
  simp only [K7, bS1, bT7]; omega
theorem ba3 (nv na : Nat) : ∀ (d : Nat) (e : c8), l7 nv na d e = true → 1 + O2 e ≤ 4 ^ d := by
 intro d
 induction d with
 | zero => intro e h; simp [l7] at h
 | succ d ih =>
  intro e h
  obtain ⟨h1, h2⟩ := ae2 h
  have h3 := aP4 (ks := e.kids) fun x hx => ih x (h2 x hx)
  have h4 : e.kids.length * 4 ^ d ≤ 3 * 4 ^ d := bU6 _ h1
  have h5 : 0 < 4 ^ d := Nat.pos_of_ne_zero (by simp)
  rw [aq0, Nat.pow_succ]
  omega
theorem A1 (n lo hi : Int) (w : World) : Calls Try.prog 69 #[.int .i64 n, .int .i64 lo, .int .i64 hi] w fun e w' => e = .returned (.bool (decide (lo ≤ n) && decide (n ≤ hi))) ∧ w = w' := by
 go_enter Try.func69, Try.ntmps69
 go_wp2
 all_goals go_ret
 all_goals exact ⟨o0 (by simp; try omega), rfl⟩
theorem am8 (l : Int) (w : World) : Calls Try.prog 43 #[.int .i64 l] w fun e w' => e = .returned (.bool (A7 l)) ∧ w = w' := by
 go_enter Try.func43, Try.ntmps43
 go_wp2_with fail
 refine (A1 l 0 3 _).mono ?_
 rintro e w1 ⟨rfl, rfl⟩
 go_wp2_with fail
 go_ret
 exact ⟨rfl, rfl⟩
theorem am7 (l : Int) (w : World) : Calls Try.prog 117 #[.int .i64 l] w fun e w' => e = .returned (.bool (!A7 l)) ∧ w = w' := by
 go_enter Try.func117, Try.ntmps117
 go_wp2_with fail
 refine (am8 l _).mono ?_
 rintro e w1 ⟨rfl, rfl⟩
 go_wp2_with fail
 go_ret
 exact ⟨rfl, rfl⟩
theorem aw3 (p : Int → Bool) (f : FuncId) (v : Value) (xs : List Int) (w : World) (h : H4 w v xs.length 1 (ints xs)) (he : ∀ args w, (callFunc f args).run Try.prog w = .ok (.enter f args) w)
  (hf : ∀ x w', Calls Try.prog f #[.int .i64 x] w' fun e w'' => e = .returned (.bool (p x)) ∧ w' = w'') :
  Calls Try.prog 137 #[v, .func (.func f) #[] #[]] w fun e w' => ∃ r : Int, e = .returned (.int .i64 r) ∧ decide (0 ≤ r) = xs.any p ∧ w = w' := by
 obtain ⟨a1, c1, rfl, -, hm1, -, hc1⟩ := h.open1
 have HF := show Hid _ from hf
 clear h hf
 go_enter Try.func137, Try.ntmps137
 go_wp2_with fail
 go_loop [5, 8] (fun _ i => ∃ k : Nat, k ≤ xs.length ∧ i = .int .i64 k ∧ (xs.take k).any p = false) (fun _ i => xs.length - (intOf i).toNat)
 case atStart => exact ⟨0, bU8 _, rfl, rfl⟩
 case round =>
  obtain ⟨k, hk, rfl, ha⟩ := hrel
  have HA := show Hid _ from ha
  clear ha
  by_cases hlt : k < xs.length
  ·obtain ⟨b1, o1, rfl, hb1, hx⟩ := hc1 k hlt
   rw [as8 _ _ hlt] at hx
   clear hc1
   cases hp : p xs[k]
   all_goals
    have HP := show Hid _ from hp
    clear hp
    go_wp2_with fail
    refine (HF.out xs[k] _).mono ?_
    rintro e w1 ⟨rfl, rfl⟩
    rw [HP.out]
    go_wp2_with fail
   ·go_round
    case rel => exact ⟨k + 1, by omega, by go_num, by rw [x5 _ _ hlt, List.any_append, HA.out]; simp [HP.out]⟩
    case measure => simp [intOf]; omega
   ·go_ret
    exact ⟨_, rfl, by rw [decide_eq_true (by omega)]; symm; rw [List.any_eq_true]; exact ⟨_, bS9 hlt, HP.out⟩, rfl⟩
  ·go_wp2_with fail
   go_ret
   refine ⟨_, rfl, ?_, rfl⟩
   have := HA.out
   rw [bT9 (by omega)] at this
   rw [this]; rfl
theorem aj1 (p : Int → Bool) (f : FuncId) (v : Value) (xs : List Int) (w : World) (h : H4 w v xs.length 1 (ints xs)) (he : ∀ args w, (callFunc f args).run Try.prog w = .ok (.enter f args) w)
  (hf : ∀ x w', Calls Try.prog f #[.int .i64 x] w' fun e w'' => e = .returned (.bool (p x)) ∧ w' = w'') :
  Calls Try.prog 116 #[v, .func (.func f) #[] #[]] w fun e w' => e = .returned (.bool (xs.any p)) ∧ w = w' := by
 obtain ⟨a1, c1, rfl, -⟩ := h.open1
 have HF := show Hid _ from hf
 have HE := show Hid _ from he
 clear hf he
 go_enter Try.func116, Try.ntmps116
 go_wp2_with fail
 refine (aw3 p f _ xs _ h HE.out HF.out).mono ?_
 rintro e w1 ⟨r, rfl, hr, rfl⟩
 have HR := show Hid _ from hr
 clear hr
 go_wp2_with fail
 go_ret
 exact ⟨o0 HR.out, rfl⟩
theorem aO3 (xs : List Int) : (!xs.any fun l => !A7 l) = xs.all A7 := by
 induction xs with
 | nil => rfl
 | cons x r ih => simp only [List.any_cons, List.all_cons, ← ih]; cases A7 x <;> simp
theorem Q7 (v : Value) (xs : List Int) (w : World) (h : H4 w v xs.length 1 (ints xs)) :
  Calls Try.prog 80 #[v] w fun e w' => e = .returned (.bool (xs.all A7)) ∧ w = w' := by
 obtain ⟨a1, c1, rfl, -⟩ := h.open1
 go_enter Try.func80, Try.ntmps80
 go_wp2_with fail
 refine (aj1 (fun l => !A7 l) 117 _ xs _ h (ai7 Try.func117 (by kernel_rfl) rfl) (fun x w' => am7 x w')).mono ?_
 rintro e w1 ⟨rfl, rfl⟩
 have HN := show Hid _ from aO3 xs
 go_wp2_with fail
 go_ret
 exact ⟨o0 HN.out, rfl⟩
theorem aw4 (v1 v2 : Value) (vars arrays : List Int) (w : World) (h1 : H4 w v1 vars.length 1 (ints vars)) (h2 : H4 w v2 arrays.length 1 (ints arrays)) :
  Calls Try.prog 41 #[v1, v2] w fun e w' => e = .returned (.bool (D4 vars arrays)) ∧ w = w' := by
 obtain ⟨a1, c1, rfl, -, q1, -⟩ := h1.open1
 obtain ⟨a2, c2, rfl, -, q2, -⟩ := h2.open1
 have HT : Hid (D4 vars arrays = (vars.all A7 && arrays.all A7 && decide (1 ≤ vars.length) && decide (vars.length ≤ 12) && decide (arrays.length ≤ 2))) := rfl
 by_cases hn : (1 : Int) ≤ (vars.length : Int) ∧ (vars.length : Int) ≤ 12
 ·have hb : (decide ((1 : Int) ≤ vars.length) && decide ((vars.length : Int) ≤ 12)) = true := by simpa using hn
  have HB := show Hid _ from hb
  by_cases hm : (arrays.length : Int) ≤ 2
  ·cases hv : vars.all A7
   ·have HV := show Hid _ from hv
    clear hv hb hn
    go_enter Try.func41, Try.ntmps41
    go_wp2_with fail
    refine (A1 _ 1 12 _).mono ?_
    rintro e w1 ⟨rfl, rfl⟩
    rw [HB.out]
    go_wp2_with fail
    refine (Q7 _ vars _ h1).mono ?_
    rintro e w1 ⟨rfl, rfl⟩
    rw [HV.out]
    go_wp2_with fail
    go_ret
    exact ⟨o0 (by rw [HT.out, HV.out]; rfl), rfl⟩
   ·have HV := show Hid _ from hv
    have hn' := show Hid _ from hn
    have hm' := show Hid _ from hm
    clear hv hb hn
    go_enter Try.func41, Try.ntmps41
    go_wp2_with fail
    refine (A1 _ 1 12 _).mono ?_
    rintro e w1 ⟨rfl, rfl⟩
    rw [HB.out]
    go_wp2_with fail
    refine (Q7 _ vars _ h1).mono ?_
    rintro e w1 ⟨rfl, rfl⟩
    rw [HV.out]
    go_wp2_with fail
    refine (Q7 _ arrays _ h2).mono ?_
    rintro e w1 ⟨rfl, rfl⟩
    go_wp2_with fail
    go_ret
    refine ⟨o0 ?_, rfl⟩
    have h3 := hn'.out
    have h4 := hm'.out
    rw [HT.out, HV.out, decide_eq_true (show 1 ≤ vars.length by omega), decide_eq_true (show vars.length ≤ 12 by omega), decide_eq_true (show arrays.length ≤ 2 by omega)]
    simp
  ·have hF : Hid (D4 vars arrays = false) := by unfold Hid; rw [HT.out, decide_eq_false (show ¬ arrays.length ≤ 2 by omega)]; simp
   clear hb hn
   go_enter Try.func41, Try.ntmps41
   go_wp2_with fail
   refine (A1 _ 1 12 _).mono ?_
   rintro e w1 ⟨rfl, rfl⟩
   rw [HB.out]
   go_wp2_with fail
   go_ret
   exact ⟨o0 hF.out.symm, rfl⟩
 ·have hb : (decide ((1 : Int) ≤ vars.length) && decide ((vars.length : Int) ≤ 12)) = false := by
   rw [Bool.eq_false_iff]; simp only [ne_eq, bR6, decide_eq_true_eq]; exact hn
  have HB := show Hid _ from hb
  have hF : Hid (D4 vars arrays = false) := by
   unfold Hid; rw [HT.out]
   rcases Classical.not_and_iff_not_or_not.1 hn with h | h
   ·rw [decide_eq_false (show ¬ 1 ≤ vars.length by omega)]; simp
   ·rw [decide_eq_false (show ¬ vars.length ≤ 12 by omega)]; simp
  clear hb hn
  go_enter Try.func41, Try.ntmps41
  go_wp2_with fail
  refine (A1 _ 1 12 _).mono ?_
  rintro e w1 ⟨rfl, rfl⟩
  rw [HB.out]
  go_wp2_with fail
  go_ret
  exact ⟨o0 hF.out.symm, rfl⟩
end Go.Proofs.Ytmokkddidcmglaa

