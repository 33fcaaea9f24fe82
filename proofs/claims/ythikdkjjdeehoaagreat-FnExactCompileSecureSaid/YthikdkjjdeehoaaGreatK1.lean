/-
  Texts of this claim, part 1: what the functions on the way do, and plain laws. Conditions: as each statement says.
-/
import Derived.WalkKit
import Derived.ProofKit
import Derived.Handy
import Derived.WalkSmall
import Derived.Deep.QuietTactic
import Derived.BigQuiet
import Derived.StillTailTactics
import Derived.Test.YthikdkjjdeehoaaGreatRows
import Derived.OpenShut
import Derived.ChangeOld
import Derived.Deep.Slices
import Derived.Lib.SmallJoins
import Derived.Deep.Quiet
import Derived.StillTail
import Derived.Maps.AppendAt
import Derived.ArgAppend
import Derived.Deep.Upon
import Derived.Laws.Small
set_option maxRecDepth 100000
set_option maxHeartbeats 16000000
open Bool renaming and_eq_true → bV8
open Inhabited renaming default → bV3
open List renaming all_eq_true → bX0, append_assoc → bZ1, eq_nil_of_length_eq_zero → bY8, getElem?_append_left → bX7, getElem?_append_right → bZ0, getElem?_eq_getElem → bW0, getElem?_eq_none → bY0, getElem?_eq_some_iff → bW9, getElem_mem → bX2, length_append → bV4, length_cons → bV6, length_set → bX3, map_cons → bY9, mem_append → bY5, mem_cons → bZ6, mem_cons_of_mem → bX9, mem_cons_self → bX6, mem_of_getElem? → bX1, mem_singleton → bY7, range → bX4, replicate → bV5, take_of_length_le → bW5
open Nat renaming add_zero → bZ5, le_refl → bW6, le_trans → bX8, lt_of_lt_of_le → bY4, lt_or_ge → bY6, mul_le_mul_right → bZ3, succ_mul → bY3, zero_add → bZ2, zero_le → bX5
open Option renaming isSome_iff_exists → bZ4, map_eq_some_iff → bW4
open True renaming intro → bW1

namespace Go.Proofs.YthikdkjjdeehoaaGreat
set_option linter.unusedVariables false
set_option linter.unusedSimpArgs false
open Go Go.RowKit
def V9 (w : World) (v : Value) (n sz : Nat) (xs : List Value) : Prop :=
 xs.length = n * sz ∧ ∃ a cap, v = .slice a n cap ∧ n ≤ cap ∧ cap ≤ maxLen ∧
  (0 < n → ∃ b off, a = some ⟨b, off, none⟩ ∧ b < w.heap.size ∧ ∀ j u, xs[j]? = some u → w.cell? ⟨b, off + j, none⟩ = some u)
theorem ac7 {W w1 : World} (hb : Below W.heap.size W w1) : (∀ b o, b < W.heap.size → w1.cell? ⟨b, o, none⟩ = W.cell? ⟨b, o, none⟩) ∧ (∀ b o, b < W.heap.size → w1.frozen? ⟨b, o, none⟩ = W.frozen? ⟨b, o, none⟩) :=
 ⟨fun b o h => hb.cell (p := ⟨b, o, none⟩) h, fun b o h => hb.frozen (p := ⟨b, o, none⟩) h⟩
theorem V9.below {w w' : World} {v : Value} {n sz : Nat} {xs : List Value} (h : V9 w v n sz xs) (hb : Below w.heap.size w w') : V9 w' v n sz xs := by
 obtain ⟨hl, a, cap, rfl, h1, h2, h3⟩ := h
 refine ⟨hl, a, cap, rfl, h1, h2, fun hn => ?_⟩
 obtain ⟨b, off, rfl, hbk, hc⟩ := h3 hn
 exact ⟨b, off, rfl, bY4 hbk hb.size, fun j u hj => ((ac7 hb).1 b _ hbk).trans (hc j u hj)⟩
theorem V9.len {w : World} {v : Value} {n sz : Nat} {xs : List Value} (h : V9 w v n sz xs) : n ≤ 9223372036854775807 := by
 obtain ⟨_, a, cap, rfl, h1, h2, _⟩ := h; unfold maxLen at h2; omega
theorem V9.nil (w : World) (sz : Nat) : V9 w (.slice none 0 0) 0 sz [] := ⟨by simp, none, 0, rfl, bW6 _, by unfold maxLen; omega, fun h => absurd h (by omega)⟩
theorem V9.open {w : World} {v : Value} {n sz : Nat} {xs : List Value} (h : V9 w v n sz xs) : ∃ a cap, v = .slice a n cap ∧ n ≤ cap ∧ n ≤ 9223372036854775807 ∧ cap ≤ 9223372036854775807 ∧
  ∀ i, i < n → ∃ b off, a = some ⟨b, off, none⟩ ∧ b < w.heap.size ∧ ∀ j, j < sz → w.cell? ⟨b, off + i * sz + j, none⟩ = xs[i * sz + j]? := by
 obtain ⟨hl, a, cap, rfl, h1, h2, h3⟩ := h
 unfold maxLen at h2
 refine ⟨a, cap, rfl, h1, by omega, by omega, fun i hi => ?_⟩
 obtain ⟨b, off, rfl, hbk, hc⟩ := h3 (by omega)
 refine ⟨b, off, rfl, hbk, fun j hj => ?_⟩
 have hlt : i * sz + j < xs.length := by
  rw [hl]; have := bZ3 sz (Nat.succ_le_of_lt hi); rw [bY3] at this; omega
 rw [bW0 hlt, Nat.add_assoc]
 exact hc _ _ (bW0 hlt)
theorem V9.form {w : World} {v : Value} {n sz : Nat} {xs : List Value} (h : V9 w v n sz xs) : ∃ a cap, v = .slice a n cap := by
 obtain ⟨_, a, cap, hv, _⟩ := h
 exact ⟨a, cap, hv⟩
theorem V9.open1 {w : World} {v : Value} {n : Nat} {xs : List Value} (h : V9 w v n 1 xs) : ∃ a cap, v = .slice a n cap ∧ n ≤ cap ∧ n ≤ 9223372036854775807 ∧ cap ≤ 9223372036854775807 ∧
  ∀ i, i < n → ∃ b off, a = some ⟨b, off, none⟩ ∧ b < w.heap.size ∧ w.cell? ⟨b, off + i, none⟩ = xs[i]? := by
 obtain ⟨a, cap, h0, h1, h2, h3, h4⟩ := h.open
 refine ⟨a, cap, h0, h1, h2, h3, fun i hi => ?_⟩
 obtain ⟨b, off, e, hb, hc⟩ := h4 i hi
 exact ⟨b, off, e, hb, by simpa using hc 0 (by omega)⟩
theorem ab1 {w : World} {base : Nat} {e : TypeId} {sz : Nat} {v : Value} {n : Nat} {xs : List Value} (h : w.ownsRow base e sz v n xs) : V9 w v n sz xs := by
 refine ⟨h.1, ?_⟩
 rcases h.2 with ⟨rfl, rfl⟩ | ⟨g, cap, cur, rfl, hbg, hg, hnc, hcm, hcs, ht⟩
 ·exact ⟨none, 0, rfl, bW6 _, by unfold maxLen; omega, fun h => absurd h (by omega)⟩
 ·refine ⟨some ⟨g, 0, none⟩, cap, rfl, hnc, hcm, fun _ => ⟨g, 0, rfl, (Array.getElem?_eq_some_iff.1 hg).1, fun j u hj => ?_⟩⟩
  have hadd : (⟨g, 0, none⟩ : Addr).add j = ⟨g, 0 + j, none⟩ := by unfold Addr.add; split <;> simp_all
  rw [← hadd]
  exact h.cells (g := g) rfl j u hj
theorem I2 {w : World} {base base' : Nat} {e : TypeId} {sz : Nat} {v : Value} {n : Nat} {xs : List Value} (h : w.ownsRow base e sz v n xs) (hb : base' ≤ base) : w.ownsRow base' e sz v n xs := by
 refine ⟨h.1, ?_⟩
 rcases h.2 with hn | ⟨g, cap, cur, rfl, hbg, r⟩
 ·exact .inl hn
 ·exact .inr ⟨g, cap, cur, rfl, by omega, r⟩
def R3 (w : World) (lo hi : Nat) (e : TypeId) (sz : Nat) (v : Value) (n : Nat) (xs : List Value) : Prop :=
 w.ownsRow lo e sz v n xs ∧ ∀ g, v.ownBlock = some g → g < hi
structure Out (lo hi : Nat) (w w' : World) : Prop where
 os : w'.os = w.os
 tape : w'.tape = w.tape
 output : w'.output = w.output
 size : w.heap.size ≤ w'.heap.size
 block : ∀ k, k < w.heap.size → (k < lo ∨ hi ≤ k) → w'.heap[k]? = w.heap[k]?
theorem Out.refl (lo hi : Nat) (w : World) : Out lo hi w w := ⟨rfl, rfl, rfl, bW6 _, fun _ _ _ => rfl⟩
theorem Out.trans {lo hi : Nat} {a b c : World} (h : Out lo hi a b) (k : Out lo hi b c) : Out lo hi a c :=
 ⟨k.os.trans h.os, k.tape.trans h.tape, k.output.trans h.output, bX8 h.size k.size, fun i hi ho => (k.block i (bY4 hi h.size) ho).trans (h.block i hi ho)⟩
theorem Out.wide {lo hi lo' hi' : Nat} {a b : World} (h : Out lo hi a b) (h1 : lo' ≤ lo) (h2 : hi ≤ hi') : Out lo' hi' a b :=
 ⟨h.os, h.tape, h.output, h.size, fun k hk ho => h.block k hk (by omega)⟩
theorem Out.below {lo hi B : Nat} {a b : World} (h : Out lo hi a b) (h1 : B ≤ lo) (h2 : B ≤ a.heap.size) : Below B a b :=
 ⟨h.os, h.tape, h.output, h.size, fun k hk => h.block k (by omega) (by omega)⟩
theorem Out.of_below {lo hi B : Nat} {a b : World} (h : Below B a b) (h1 : a.heap.size ≤ B) : Out lo hi a b :=
 ⟨h.os, h.tape, h.output, h.size, fun k hk _ => h.block k (by omega)⟩
theorem Out.setCell {lo hi : Nat} {a w : World} (h : Out lo hi a w) {p : Addr} (h1 : lo ≤ p.block) (h2 : p.block < hi) (u : Value) : Out lo hi a (w.setCell p u) :=
 h.trans ⟨rfl, rfl, rfl, by simp [World.setCell], fun k _ ho => Below.heap_setCell _ _ _ _ (by omega)⟩
theorem R3.lt {w : World} {lo hi : Nat} {e : TypeId} {sz : Nat} {v : Value} {n : Nat} {xs : List Value} (h : R3 w lo hi e sz v n xs) : ∀ g, v.ownBlock = some g → lo ≤ g ∧ g < hi ∧ g < w.heap.size :=
 fun g hg => ⟨(h.1.lt g hg).1, h.2 g hg, (h.1.lt g hg).2⟩
theorem R3.row {w : World} {lo hi : Nat} {e : TypeId} {sz : Nat} {v : Value} {n : Nat} {xs : List Value} (h : R3 w lo hi e sz v n xs) : V9 w v n sz xs := ab1 h.1
theorem R3.mk' {w : World} {lo : Nat} {e : TypeId} {sz : Nat} {v : Value} {n : Nat} {xs : List Value} (h : w.ownsRow lo e sz v n xs) : R3 w lo w.heap.size e sz v n xs :=
 ⟨h, fun g hg => (h.lt g hg).2⟩
theorem R3.wide {w : World} {lo hi lo' hi' : Nat} {e : TypeId} {sz : Nat} {v : Value} {n : Nat} {xs : List Value} (h : R3 w lo hi e sz v n xs) (h1 : lo' ≤ lo) (h2 : hi ≤ hi') : R3 w lo' hi' e sz v n xs :=
 ⟨I2 h.1 h1, fun g hg => bY4 (h.2 g hg) h2⟩
theorem R3.form {w : World} {lo hi : Nat} {e : TypeId} {sz : Nat} {v : Value} {n : Nat} {xs : List Value} (h : R3 w lo hi e sz v n xs) : ∃ a cap, v = .slice a n cap := by
 obtain ⟨_, a, cap, hv, _⟩ := h.row
 exact ⟨a, cap, hv⟩
theorem R3.same {w w' : World} {lo hi : Nat} {e : TypeId} {sz : Nat} {v : Value} {n : Nat} {xs : List Value} (h : R3 w lo hi e sz v n xs)
  (hs : ∀ g, v.ownBlock = some g → w'.heap[g]? = w.heap[g]?) : R3 w' lo hi e sz v n xs := by
 refine ⟨⟨h.1.1, ?_⟩, h.2⟩
 rcases h.1.2 with hn | ⟨g, cap, cur, rfl, hbg, hg, r⟩
 ·exact .inl hn
 ·exact .inr ⟨g, cap, cur, rfl, hbg, (hs g rfl).trans hg, r⟩
theorem R3.keep {w w' : World} {lo hi B : Nat} {e : TypeId} {sz : Nat} {v : Value} {n : Nat} {xs : List Value} (h : R3 w lo hi e sz v n xs) (hb : Below B w w') (hB : hi ≤ B) : R3 w' lo hi e sz v n xs :=
 h.same fun g hg => hb.block g (by have := h.lt g hg; omega)
theorem R3.out {w w' : World} {lo hi lo' hi' : Nat} {e : TypeId} {sz : Nat} {v : Value} {n : Nat} {xs : List Value} (h : R3 w lo hi e sz v n xs) (ho : Out lo' hi' w w') (hd : hi ≤ lo' ∨ hi' ≤ lo) : R3 w' lo hi e sz v n xs :=
 h.same fun g hg => ho.block g (h.lt g hg).2.2 (by have := h.lt g hg; omega)
theorem R3.open {w : World} {lo hi : Nat} {e : TypeId} {sz : Nat} {v : Value} {n : Nat} {xs : List Value} (h : R3 w lo hi e sz v n xs) (hn : 0 < n) :
  ∃ g cap, v = .slice (some ⟨g, 0, none⟩) n cap ∧ lo ≤ g ∧ g < hi ∧ g < w.heap.size ∧ n ≤ cap ∧ cap ≤ maxLen ∧ (∀ o, w.frozen? ⟨g, o, none⟩ = false) ∧ ∀ j u, xs[j]? = some u → w.cell? ⟨g, j, none⟩ = some u := by
 have hl := h.lt
 rcases h.1.2 with ⟨_, h0⟩ | ⟨g, cap, cur, rfl, hbg, hg, hnc, hcm, hcs, ht⟩
 ·omega
 ·obtain ⟨l1, l2, l3⟩ := hl g rfl
  refine ⟨g, cap, rfl, l1, l2, l3, hnc, hcm, fun o => ?_, fun j u hj => ?_⟩
  ·simp only [World.frozen?, hg]; simp
  ·have hadd : (⟨g, 0, none⟩ : Addr).add j = ⟨g, j, none⟩ := by unfold Addr.add; split <;> simp_all
   rw [← hadd]
   exact h.1.cells (g := g) rfl j u hj
theorem R3.at {w : World} {lo hi : Nat} {e : TypeId} {sz : Nat} {v : Value} {n : Nat} {xs : List Value} (h : R3 w lo hi e sz v n xs) {j : Nat} (hj : j < xs.length) :
  ∃ g cap, v = .slice (some ⟨g, 0, none⟩) n cap ∧ lo ≤ g ∧ g < hi ∧ g < w.heap.size ∧ w.frozen? ⟨g, j, none⟩ = false ∧ ∃ u, w.cell? ⟨g, j, none⟩ = some u := by
 have hn : 0 < n := by
  rcases Nat.eq_zero_or_pos n with h0 | h0
  ·subst h0; have := h.1.1; omega
  ·exact h0
 obtain ⟨g, cap, hv, h1, h2, h3, _, _, h4, h5⟩ := h.open hn
 exact ⟨g, cap, hv, h1, h2, h3, h4 j, _, h5 j _ (bW0 hj)⟩
theorem R3.setCell {w : World} {lo hi : Nat} {e : TypeId} {sz : Nat} {n cap g : Nat} {xs : List Value} (h : R3 w lo hi e sz (.slice (some ⟨g, 0, none⟩) n cap) n xs) {j : Nat} (_hj : j < xs.length) (u : Value) :
  R3 (w.setCell ⟨g, j, none⟩ u) lo hi e sz (.slice (some ⟨g, 0, none⟩) n cap) n (xs.set j u) := by
 refine ⟨⟨by rw [bX3]; exact h.1.1, ?_⟩, h.2⟩
 rcases h.1.2 with ⟨hv, _⟩ | ⟨g', cap', cur, hv, hbg, hg, hnc, hcm, hcs, ht⟩
 ·cases hv
 ·cases hv
  refine .inr ⟨g, cap, cur.setIfInBounds j u, rfl, hbg, ?_, hnc, hcm, by simpa using hcs, ?_⟩
  ·have hlt := (Array.getElem?_eq_some_iff.1 hg).1
   simp only [World.setCell, Array.getElem?_modify]
   simp [hg]
  ·rw [Array.toList_setIfInBounds, List.take_set, ht]
theorem k8 {a b : Bool} (h : a = b) : Ending.returned (.bool a) = .returned (.bool b) := by rw [h]
theorem C1 {k : IntKind} {a b : Int} (h : a = b) : Ending.returned (.int k a) = .returned (.int k b) := by rw [h]
def L0 (m : Int) (n : Nat) : Int := if m < n then -1 else m - n
theorem A7 {m : Int} {n : Nat} (h : m < n) : L0 m n = -1 := if_pos h
theorem F0 {m : Int} {n : Nat} (h : ¬ m < n) : L0 m n = m - n := if_neg h
theorem m8 {α : Type} (l : List α) (k : Nat) (h : k < l.length) : l.take (k + 1) = l.take k ++ [l[k]] := by
 rw [List.take_succ_eq_append_getElem h]
theorem ah3 {α : Type} {xs ys : List α} {k : Nat} (h : xs.take k = ys.take k) (h1 : k < xs.length) (h2 : k < ys.length) (he : xs[k] = ys[k]) : xs.take (k + 1) = ys.take (k + 1) := by
 rw [m8 _ _ h1, m8 _ _ h2, h, he]
theorem R4 {α : Type} {xs ys : List α} {k : Nat} (h : xs.take k = ys.take k) (h1 : xs.length ≤ k) (h2 : ys.length ≤ k) : xs = ys := by
 rw [bW5 h1, bW5 h2] at h; exact h
theorem W3 {α : Type} (ys : List α) (k : Nat) (u : α) (h : k < ys.length) : (ys.set k u).take (k + 1) = ys.take k ++ [u] := by
 rw [m8 _ _ (by simpa using h), List.take_set_of_le (bW6 _)]; simp
def I5 (z : List Value) (n : Nat) : List Value := (bV5 n z).flatten
theorem S7 (z : List Value) (n : Nat) : (I5 z n).length = n * z.length := by simp [I5]
theorem aB2 (z : Value) (n : Nat) : I5 [z] n = bV5 n z := by
 unfold I5
 induction n with
 | zero => rfl
 | succ n ih => rw [List.replicate_succ, List.flatten_cons, ih]; rfl
theorem aJ2 (z : Array Value) (n : Nat) (_hz : 0 < z.size) : madeCells z (n * z.size) = (I5 z.toList n).toArray := by
 apply Array.ext
 ·simp [size_madeCells, S7]
 ·intro i h1 h2
  simp only [madeCells, Array.getElem_map, Array.getElem_range, List.getElem_toArray]
  have hlt : i < (I5 z.toList n).length := by simpa using h2
  have key : ∀ (m i : Nat), i < (I5 z.toList m).length → (I5 z.toList m)[i]? = some (z[i % z.size]!) := by
   intro m
   induction m with
   | zero => intro i hi; simp [I5] at hi
   | succ m ih =>
    intro i hi
    have e : I5 z.toList (m + 1) = z.toList ++ I5 z.toList m := by simp [I5, List.replicate_succ]
    rw [e]
    by_cases hlt : i < z.size
    ·rw [bX7 (by simpa using hlt), Nat.mod_eq_of_lt hlt]
     simp [hlt]
    ·rw [bZ0 (by simp; omega)]
     have := ih (i - z.toList.length) (by rw [e, bV4] at hi; rw [Array.length_toList] at hi ⊢; omega)
     rw [this]
     congr 2
     rw [Array.length_toList]
     exact (Nat.mod_eq_sub_mod (by omega)).symm
  have := key n i hlt
  rw [bW0 hlt] at this
  exact (Option.some.inj this).symm
theorem av1 {P : Program} {t e : TypeId} {z : Value} {size bytes : Nat} (ht : P.underlying t = some (.slice e)) (hi : (P.info? e).map (fun i => (i.zero, i.size, i.bytes)) = some (some z, size, bytes))
  (hz : z.cells.size = size) (hs : 0 < size) (n : Nat) (hn : bytes * n ≤ 281474976710656) (hm : n ≤ 9223372036854775807) :
  ∀ w, (Instr.makeSlice t (.int .i64 n) (.int .i64 n)).run P w = .ok (.slice (some ⟨w.heap.size, 0, none⟩) n n) (w.alloc (.cells (I5 z.cells.toList n).toArray e)) := by
 intro w
 obtain ⟨i, h1, h2, h3, h4⟩ := info_parts hi
 have := run_make (P := P) w t e i z ht h1 h2 .i64 .i64 n n (by omega) (Int.le_refl _) (by rw [h4, ← Int.natCast_mul]; omega) (by omega)
 rw [this]
 simp only [Int.toNat_natCast, h3]
 subst hz
 rw [aJ2 _ _ hs]
theorem an1 (w : World) {g : Nat} (cs : Array Value) (n sz : Nat) (e : TypeId) (hg : g = w.heap.size) (hz : cs.size = n * sz) (hm : n ≤ 9223372036854775807) :
  R3 (w.alloc (.cells cs e)) w.heap.size (w.heap.size + 1) e sz (.slice (some ⟨g, 0, none⟩) n n) n cs.toList := by
 subst hg
 refine ⟨⟨by simpa using hz, .inr ⟨w.heap.size, n, _, rfl, bW6 _, heap_alloc_new w _, bW6 _, by unfold maxLen; omega, hz, ?_⟩⟩, fun g hg => by cases hg; exact Nat.lt_succ_self _⟩
 rw [← hz]
 exact bW5 (by simp)
theorem au5 (w : World) (z : List Value) (n sz : Nat) (e : TypeId) (hz : z.length = sz) (hm : n ≤ 9223372036854775807) :
  R3 (w.alloc (.cells (I5 z n).toArray e)) w.heap.size (w.heap.size + 1) e sz (.slice (some ⟨w.heap.size, 0, none⟩) n n) n (I5 z n) := by
 refine ⟨⟨by rw [S7, hz], .inr ⟨w.heap.size, n, _, rfl, bW6 _, heap_alloc_new w _, bW6 _, by unfold maxLen; omega, by simp [S7, hz], ?_⟩⟩, fun g hg => by cases hg; exact Nat.lt_succ_self _⟩
 have : (I5 z n).length = n * sz := by rw [S7, hz]
 rw [← this]
 simp
def setFrom (ys : List Value) (p : Nat) : List Value → List Value
 | [] => ys
 | u :: r => setFrom (ys.set p u) (p + 1) r
def World.setFrom (w : World) (g p : Nat) : List Value → World
 | [] => w
 | u :: r => World.setFrom (w.setCell ⟨g, p, none⟩ u) g (p + 1) r
theorem L1 (us : List Value) : ∀ (ys : List Value) (p : Nat), (setFrom ys p us).length = ys.length := by
 induction us with
 | nil => intro ys p; rfl
 | cons u r ih => intro ys p; simp [setFrom, ih]
theorem T2 (us : List Value) : ∀ (ys : List Value) (p : Nat), p + us.length ≤ ys.length → (setFrom ys p us).take (p + us.length) = ys.take p ++ us := by
 induction us with
 | nil => intro ys p h; simp [setFrom]
 | cons u r ih =>
  intro ys p h
  simp only [bV6] at h
  have := ih (ys.set p u) (p + 1) (by simp; omega)
  simp only [setFrom, bV6]
  rw [show p + (r.length + 1) = p + 1 + r.length by omega, this, W3 _ _ _ (by omega)]
  simp
theorem R3.setFrom {lo hi : Nat} {e : TypeId} {sz n cap g : Nat} (us : List Value) : ∀ {w : World} {xs : List Value} {p : Nat}, R3 w lo hi e sz (.slice (some ⟨g, 0, none⟩) n cap) n xs → p + us.length ≤ xs.length →
  R3 (World.setFrom w g p us) lo hi e sz (.slice (some ⟨g, 0, none⟩) n cap) n (setFrom xs p us) := by
 induction us with
 | nil => intro w xs p h _; exact h
 | cons u r ih =>
  intro w xs p h hl
  simp only [bV6] at hl
  exact ih (h.setCell (by omega) u) (by simp; omega)
theorem Out.setFrom {lo hi g : Nat} {a : World} (us : List Value) : ∀ {w : World} {p : Nat}, Out lo hi a w → lo ≤ g → g < hi → Out lo hi a (World.setFrom w g p us) := by
 induction us with
 | nil => intro w p h _ _; exact h
 | cons u r ih => intro w p h h1 h2; exact ih (h.setCell h1 h2 u) h1 h2
theorem ap3 {B g : Nat} {a : World} (us : List Value) : ∀ {w : World} {p : Nat}, Below B a w → B ≤ g → Below B a (World.setFrom w g p us) := by
 induction us with
 | nil => intro w p h _; exact h
 | cons u r ih => intro w p h h1; exact ih (h.setCell h1 u) h1
theorem R3.tight {w : World} {lo hi : Nat} {e : TypeId} {sz : Nat} {v : Value} {n : Nat} {xs : List Value} (h : R3 w lo hi e sz v n xs) :
  ∃ lo' hi', lo ≤ lo' ∧ hi' ≤ hi ∧ R3 w lo' hi' e sz v n xs ∧ ∀ g, lo' ≤ g → g < hi' → v.ownBlock = some g := by
 have hl := h.lt
 cases hv : v.ownBlock with
 | none =>
  refine ⟨max lo hi, hi, by omega, bW6 _, ⟨⟨h.1.1, ?_⟩, fun g hg => by rw [hv] at hg; cases hg⟩, fun g h1 h2 => by omega⟩
  rcases h.1.2 with hn | ⟨g, cap, cur, rfl, _⟩
  ·exact .inl hn
  ·cases hv
 | some g =>
  obtain ⟨l1, l2, l3⟩ := hl g hv
  refine ⟨g, g + 1, l1, l2, ⟨⟨h.1.1, ?_⟩, fun g' hg => by rw [hv] at hg; cases hg; omega⟩, fun g' h1 h2 => by rw [show g' = g by omega]⟩
  rcases h.1.2 with hn | ⟨g', cap, cur, rfl, r⟩
  ·exact .inl hn
  ·cases hv
   exact .inr ⟨_, cap, cur, rfl, bW6 _, r.2⟩
def bo0 (u v : Value) : Prop := ∀ g, u.ownBlock = some g → v.ownBlock ≠ some g
theorem bo0.symm {u v : Value} (h : bo0 u v) : bo0 v u := fun g h1 h2 => h g h2 h1
def Blk (w : World) (b : Nat) (cs : List Value) : Prop := ∃ T, w.heap[b]? = some (.cells cs.toArray T (0, 0))
theorem Blk.lt {w : World} {b : Nat} {cs : List Value} (h : Blk w b cs) : b < w.heap.size := by
 obtain ⟨T, h⟩ := h; exact (Array.getElem?_eq_some_iff.1 h).1
theorem Blk.cell {w : World} {b : Nat} {cs : List Value} (h : Blk w b cs) (j : Nat) : w.cell? ⟨b, j, none⟩ = cs[j]? := by
 obtain ⟨T, h⟩ := h; simp [World.cell?, h]
theorem Blk.free {w : World} {b : Nat} {cs : List Value} (h : Blk w b cs) (j : Nat) : w.frozen? ⟨b, j, none⟩ = false := by
 obtain ⟨T, h⟩ := h; simp only [World.frozen?, h]; simp
theorem Blk.below {w w' : World} {b B : Nat} {cs : List Value} (h : Blk w b cs) (hb : Below B w w') (hB : b < B) : Blk w' b cs := by
 obtain ⟨T, h⟩ := h; exact ⟨T, (hb.block b hB).trans h⟩
theorem Blk.out {w w' : World} {b lo hi : Nat} {cs : List Value} (h : Blk w b cs) (hb : Out lo hi w w') (hB : b < lo ∨ hi ≤ b) : Blk w' b cs := by
 have hlt := h.lt
 obtain ⟨T, h⟩ := h; exact ⟨T, (hb.block b hlt hB).trans h⟩
theorem Blk.set {w : World} {b j : Nat} {cs : List Value} (h : Blk w b cs) (u : Value) : Blk (w.setCell ⟨b, j, none⟩ u) b (cs.set j u) := by
 obtain ⟨T, h⟩ := h
 refine ⟨T, ?_⟩
 simp only [World.setCell, Array.getElem?_modify]
 simp [h]
theorem Blk.new (w : World) (cs : List Value) (T : TypeId) : Blk (w.alloc (.cells cs.toArray T)) w.heap.size cs := ⟨T, heap_alloc_new w _⟩
theorem Blk.alloc {w : World} {b : Nat} {cs : List Value} (h : Blk w b cs) (o : Obj) : Blk (w.alloc o) b cs := by
 have hlt := h.lt
 obtain ⟨T, h⟩ := h; exact ⟨T, (Below.heap_alloc w o b hlt).trans h⟩
theorem Blk.drew {w : World} {b : Nat} {cs : List Value} (h : Blk w b cs) : Blk w.drew b cs := h
theorem Out.cell (w : World) (b j : Nat) (u : Value) : Out b (b + 1) w (w.setCell ⟨b, j, none⟩ u) :=
 Out.setCell (p := ⟨b, j, none⟩) (Out.refl b (b + 1) w) (bW6 b) (Nat.lt_succ_self b) u
end Go.Proofs.YthikdkjjdeehoaaGreat

namespace Go.Proofs.YthikdkjjdeehoaaGreat
set_option linter.unusedVariables false
set_option linter.unusedSimpArgs false
open Go Go.RowKit Go.ChangeShapes Go.WideShapes Go.Deep
theorem own : ownKnob Tryz.prog.godebug = none := by kernel_rfl
theorem bC6 : laidOutB Tryz.prog = true := by kernel_rfl
section
variable {H : Type} {enc : TypeId × Value → H} {W : World}
theorem a37 {C : Nat → List Value} {sz : Nat} (hC : ∀ i, (C i).length = sz) : ∀ (n i j : Nat), i < n → j < sz → ((bX4 n).flatMap C)[i * sz + j]? = (C i)[j]? := by
 intro n
 induction n with
 | zero => intro i j h; omega
 | succ n ih =>
  intro i j h hj
  have hlen : ((bX4 n).flatMap C).length = n * sz := by
   clear ih h
   induction n with
   | zero => simp
   | succ n ih2 => rw [List.range_succ, List.flatMap_append, bV4, ih2]; simp [hC, bY3]
  rw [List.range_succ, List.flatMap_append]
  by_cases hin : i < n
  ·rw [bX7 (by rw [hlen]; have := bZ3 sz (Nat.succ_le_of_lt hin); rw [bY3] at this; omega)]
   exact ih i j hin hj
  ·obtain rfl : i = n := by omega
   rw [bZ0 (by omega), hlen]
   simp
theorem aw0 {C : Nat → List Value} {sz : Nat} (hC : ∀ i, (C i).length = sz) (n : Nat) : ((bX4 n).flatMap C).length = n * sz := by
 induction n with
 | zero => simp
 | succ n ih2 => rw [List.range_succ, List.flatMap_append, bV4, ih2]; simp [hC, bY3]
theorem a04 {t e : TypeId} {fuel : Nat} {v : Value} {x : DataW H × List MemPlace} {sz : Nat} (ht : Tryz.prog.underlying t = some (.slice e)) (hc : Tryz.prog.cellsOf e = sz) (hsz : 0 < sz)
  (h : DataW.trod enc Tryz.prog W 0 (fun _ => true) true fuel t [v] = some x) :
  ∃ (n m : Nat) (C : Nat → List Value), V9 W v n sz ((bX4 n).flatMap C) ∧ (∀ i, (C i).length = sz) ∧ ∀ i, i < n → ∃ y, DataW.trod enc Tryz.prog W 0 (fun _ => true) true m e (C i) = some y := by
 rcases open_slice ht h with ⟨hcs, _⟩ | ⟨a, len, cap, m, k, D, Pl, hcs, _, hl, hm, hmm, _, hx⟩
 ·cases hcs
  exact ⟨0, 0, fun _ => bV5 sz undef, V9.nil _ _, by simp, fun i hi => by omega⟩
 ·cases hcs
  rw [hc] at hx
  have hmc : len ≤ m := by rw [hmm]; simp; omega
  obtain ⟨C, hC⟩ := choose_lt (α := List Value) (n := len) (p := fun i cs => cs.length = sz ∧ (∀ j, j < sz → W.cell? (a.add (i * sz + j)) = cs[j]?) ∧ ∃ y, DataW.trod enc Tryz.prog W 0 (fun _ => true) true k e cs = some y) (fun i hi => by
   obtain ⟨cs', h1, h2⟩ := hx i (by omega)
   obtain ⟨_, hlen, hcell⟩ := World.cells?_some h1
   exact ⟨cs', hlen, fun j hj => by rw [← add_add]; exact hcell j hj, _, h2⟩)
  let C' : Nat → List Value := fun i => if i < len then C i else bV5 sz undef
  have hC' : ∀ i, (C' i).length = sz := fun i => by
   by_cases hi : i < len
   ·simp only [C', if_pos hi]; exact (hC i hi).1
   ·simp [C', if_neg hi]
  refine ⟨len, k, C', ⟨aw0 hC' len, some a, cap, rfl, hl, hm, fun hn => ?_⟩, hC', fun i hi => ?_⟩
  ·obtain ⟨b, off, spot⟩ := a
   have h00 := (hC 0 hn).2.1 0 hsz
   have hlen0 := (hC 0 hn).1
   rw [bW0 (by omega)] at h00
   have hs : spot = none := by
    simpa [Addr.add] using World.cell?_spot h00
   subst hs
   have hb : b < W.heap.size := by simpa [Addr.add] using World.block_lt_of_cell? W _ h00
   refine ⟨b, off, rfl, hb, fun j u hj => ?_⟩
   have hjl : j < len * sz := by have := (bW9.1 hj).1; rw [aw0 hC'] at this; exact this
   have hi : j / sz < len := Nat.div_lt_of_lt_mul (by rw [Nat.mul_comm]; exact hjl)
   have hr : j % sz < sz := Nat.mod_lt _ hsz
   have hjj : j / sz * sz + j % sz = j := Nat.div_add_mod' j sz
   have hg := a37 hC' len (j / sz) (j % sz) hi hr
   rw [hjj, hj] at hg
   have hcc := (hC _ hi).2.1 _ hr
   simp only [C', if_pos hi] at hg
   rw [hjj, ← hg] at hcc
   have hadd : (⟨b, off, none⟩ : Addr).add j = ⟨b, off + j, none⟩ := by unfold Addr.add; split <;> simp_all
   rw [hadd] at hcc
   exact hcc
  ·obtain ⟨y, hy⟩ := (hC i hi).2.2
   exact ⟨y, by simp only [C', if_pos hi]; exact hy⟩
theorem aJ1 {α : Type} (n : Nat) (C : Nat → List Value) (f : α → Value) (g : Nat → α) (h : ∀ i, i < n → C i = [f (g i)]) : (bX4 n).flatMap C = ((bX4 n).map g).map f := by
 rw [List.map_map, List.flatMap_def]
 rw [List.map_congr_left (g := fun i => [f (g i)]) (fun i hi => h i (by simpa using hi))]
 induction n with
 | zero => simp
 | succ n ih =>
  rw [List.range_succ, List.map_append, List.flatten_append, List.map_append, ih (fun i hi => h i (by omega))]
  simp
theorem av5 {fuel : Nat} {t : TypeId} {v : Value} {x : DataW H × List MemPlace} (ht : Tryz.prog.underlying t = some (.slice 3))
  (h : DataW.trod enc Tryz.prog W 0 (fun _ => true) true fuel t [v] = some x) : ∃ l : List Int, V9 W v l.length 1 (l.map (Value.int .i64)) := by
 obtain ⟨n, m, C, hr, hC, hx⟩ := a04 ht (sz := 1) (by kernel_rfl) (by omega) h
 obtain ⟨g, hg⟩ := choose_lt (α := Int) (n := n) (p := fun i b => C i = [.int .i64 b]) (fun i hi => by
  obtain ⟨y, hy⟩ := hx i hi
  obtain ⟨b, hb, _⟩ := DataW.trod_int Tryz.underlying3 hy
  exact ⟨b, hb⟩)
 refine ⟨(bX4 n).map g, ?_⟩
 rw [List.length_map, List.length_range, ← aJ1 n C (Value.int .i64) g hg]
 exact hr
end
end Go.Proofs.YthikdkjjdeehoaaGreat

namespace Go.Proofs.YthikdkjjdeehoaaGreat
set_option linter.unusedVariables false
set_option linter.unusedSimpArgs false
open Go Go.RowKit
def _root_.Go.World.ext (w X : World) : World := { w with heap := w.heap ++ X.heap, drawn := X.drawn }
theorem A0 (w : World) (X : World) : Below w.heap.size w (w.ext X) :=
 ⟨rfl, rfl, rfl, by simp [World.ext], fun k hk => by simp only [World.ext]; rw [Array.getElem?_append_left hk]⟩
theorem aQ4 {w w' : World} (h : Below w.heap.size w w') : ∃ X, w' = w.ext X := by
 refine ⟨{ w' with heap := w'.heap.extract w.heap.size w'.heap.size }, ?_⟩
 obtain ⟨h1, h2, h3, h4, h5⟩ := h
 have hh : w'.heap = w.heap ++ w'.heap.extract w.heap.size w'.heap.size := by
  apply Array.ext_getElem?
  intro i
  rcases bY6 i w.heap.size with hi | hi
  ·rw [Array.getElem?_append_left hi, h5 i hi]
  ·rw [Array.getElem?_append_right hi, Array.getElem?_extract]
   split
   ·rw [show w.heap.size + (i - w.heap.size) = i by omega]
   ·rename_i hn
    rw [Array.getElem?_eq_none]
    simp at hn
    omega
 cases w; cases w'
 simp only [World.ext] at *
 subst h1 h2 h3
 rw [← hh]
theorem n7 {w : World} {b o : Nat} {v : Value} (h : w.cell? ⟨b, o, none⟩ = some v) (X : World) : (w.ext X).cell? ⟨b, o, none⟩ = some v := by
 have hb : b < w.heap.size := World.block_lt_of_cell? w ⟨b, o, none⟩ h
 rw [(ac7 (A0 w X)).1 b o hb]; exact h
theorem Calls.ext_of' {P : Program} {f : FuncId} {args : Array Value} {w : World} {X : World} {v : Value}
  (h : Calls P f args (w.ext X) fun e w' => e = .returned v ∧ Below (w.ext X).heap.size (w.ext X) w') : Calls P f args (w.ext X) fun e w'' => e = .returned v ∧ ∃ Y, w'' = w.ext Y :=
 h.mono fun _ _ ⟨he, hb⟩ => ⟨he, aQ4 ((A0 w X).trans (hb.mono (A0 w X).size))⟩
theorem v6 {P : Program} {id : Nat} {Q : Exit → Act → World → Prop} {a : Act} {w : World} {l : List Oper} (hm : P.follows .mixedOrders = true) (hB : Region.lexB .any l.toArray = true)
  (h : wpQuiet P l.toArray (fun w' => ∃ X, w' = w.ext X) (fun a' => ∀ w', (∃ X, w' = w.ext X) → Q .normal a' w') l a) : (Code.region id l.toArray true).wp P Q a w :=
 wp_region_quiet (C := fun w' => ∃ X, w' = w.ext X) hm hB (aQ4 (w' := w.drew) (Below.refl _ _).drew) (by simpa using h)
theorem aP8 {P : Program} {f : FuncId} {fn : Func} {c : Code} (hf : P.funcs[f]? = some fn) (hn : (fn.name == "runtime.NumGoroutine") = false) (hb : fn.body = some c) :
  ∀ args w, (callFunc f args).run P w = .ok (.enter f args) w := by
 intro args w
 have h1 : fn.name ≠ "runtime.NumGoroutine" := by simpa using hn
 simp [callFunc, hf, h1, hb, mark]
end Go.Proofs.YthikdkjjdeehoaaGreat

namespace Go.Proofs.YthikdkjjdeehoaaGreat
set_option linter.unusedVariables false
set_option linter.unusedSimpArgs false
theorem L2 {α : Type} (l : List α) (k : Nat) (h : k < l.length) : l.take (k + 1) = l.take k ++ [l[k]] := by
 rw [List.take_succ_eq_append_getElem h]
theorem ap4 {α : Type} (p : α → Bool) (l : List α) (k : Nat) (h : k < l.length) : (l.take (k + 1)).all p = ((l.take k).all p && p l[k]) := by
 rw [L2 l k h, List.all_append]; simp
theorem bf6 {α : Type} {p : α → Bool} {l : List α} {k : Nat} (h : k < l.length) (hp : p l[k] = false) : l.all p = false := by
 rw [List.all_eq_false]; exact ⟨l[k], bX2 h, by simp [hp]⟩
structure l7 where
 op : Int
 a : Int
 b : Int
 c : Int
 d : Int
def l7.l (x : l7) : List Int := [x.op, x.a, x.b, x.c, x.d]
def V4 : List l7 → List Int
 | [] => []
 | x :: r => x.op :: x.a :: x.b :: x.c :: x.d :: V4 r
theorem bv5 (l : List l7) : (V4 l).length = l.length * 5 := by
 induction l with
 | nil => rfl
 | cons x r ih => simp [V4, ih]; omega
theorem l7.ext' {x y : l7} (h : x.l = y.l) : x = y := by
 cases x; cases y; simp [l7.l] at h; simp [h]
theorem a31 : ∀ {l m : List l7}, V4 l = V4 m → l = m
 | [], [], _ => rfl
 | [], _ :: _, h => by simp [V4] at h
 | _ :: _, [], h => by simp [V4] at h
 | x :: r, y :: s, h => by
  simp only [V4, List.cons.injEq] at h
  obtain ⟨h1, h2, h3, h4, h5, h6⟩ := h
  rw [a31 h6, l7.ext' (x := x) (y := y) (by simp [l7.l, h1, h2, h3, h4, h5])]
theorem bv6 (l : List l7) (i : Nat) (hi : i < l.length) : (V4 l)[i * 5]? = some l[i].op ∧ (V4 l)[i * 5 + 1]? = some l[i].a ∧ (V4 l)[i * 5 + 2]? = some l[i].b ∧ (V4 l)[i * 5 + 3]? = some l[i].c ∧ (V4 l)[i * 5 + 4]? = some l[i].d := by
 induction l generalizing i with
 | nil => simp at hi
 | cons x r ih =>
  cases i with
  | zero => simp [V4]
  | succ i =>
   rw [bY3]
   have := ih i (by simpa using hi)
   simpa [V4, Nat.add_assoc] using this
structure J1 where
 vars : List Int
 arrays : List Int
 list : List l7
def J1.size (c : J1) : Nat := c.vars.length + c.arrays.length + c.list.length
def J1.same (c d : J1) : Bool := decide (c.vars = d.vars) && decide (c.arrays = d.arrays) && decide (V4 c.list = V4 d.list)
theorem J1.same_eq {c d : J1} : c.same d = true ↔ c = d := by
 cases c; cases d
 simp only [J1.same, bV8, decide_eq_true_eq, J1.mk.injEq]
 constructor
 ·rintro ⟨⟨rfl, rfl⟩, h⟩; exact ⟨rfl, rfl, a31 h⟩
 ·rintro ⟨rfl, rfl, rfl⟩; exact ⟨⟨rfl, rfl⟩, rfl⟩
def m0 (l : Int) : Bool := decide (0 ≤ l) && decide (l ≤ 3)
def L9 (vars arrays : List Int) : Bool := vars.all m0 && arrays.all m0 && decide (1 ≤ vars.length) && decide (vars.length ≤ 12) && decide (arrays.length ≤ 2)
def bA3 (c : J1) (kd : UInt8) (n : Int) : Bool :=
 if kd = 114 then decide (0 ≤ n) && decide (n < 14)
 else if kd = 99 then decide (0 ≤ n) && decide (n ≤ 255)
 else if kd = 118 then decide (0 ≤ n) && decide (n < c.vars.length)
 else if kd = 97 then decide (0 ≤ n) && decide (n < c.arrays.length)
 else if kd = 111 then decide (4 ≤ n) && decide (n ≤ 10)
 else decide (0 ≤ n) && decide (n < c.list.length)
def aW5 (op : Int) : List UInt8 :=
 if op = 1 then [114, 99] else if op = 2 then [114, 118] else if op = 3 then [118, 114] else if op = 4 then [114, 97, 114] else if op = 5 then [97, 114, 114]
 else if op = 6 then [114, 111, 114, 114] else if op = 7 then [114, 114, 114, 114] else if op = 8 then [116] else if op = 9 then [114, 116] else if op = 10 then [114, 116]
 else if op = 11 then [114] else []
def aV1 (c : J1) (kinds : List UInt8) (k : Nat) (n : Int) : Bool :=
 match kinds[k]? with
 | some kd => bA3 c kd n
 | none => decide (n = 0)
def bH4 (c : J1) (x : l7) : Bool :=
 decide (1 ≤ x.op) && decide (x.op ≤ 13) && (aV1 c (aW5 x.op) 0 x.a && aV1 c (aW5 x.op) 1 x.b && aV1 c (aW5 x.op) 2 x.c && aV1 c (aW5 x.op) 3 x.d)
def bu6 (c : J1) : Bool := match c.list.getLast? with | some x => decide (x.op = 13) || decide (x.op = 8) | none => false
def aX1 (c : J1) : Bool := L9 c.vars c.arrays && decide (1 ≤ c.list.length) && decide (c.list.length ≤ 400) && c.list.all (bH4 c) && bu6 c
def bP0 (x : l7) (i : Int) : List Int := if x.op = 13 then [] else if x.op = 8 then [x.a] else if x.op = 9 ∨ x.op = 10 then [i + 1, x.b] else [i + 1]
def nx (c : J1) (t : Int) : List Int := match c.list[t.toNat]? with | some x => bP0 x t | none => []
theorem aw6 {c : J1} (h : aX1 c = true) : L9 c.vars c.arrays = true ∧ 1 ≤ c.list.length ∧ c.list.length ≤ 400 ∧ (∀ (i : Nat) (hi : i < c.list.length), bH4 c c.list[i] = true) ∧ bu6 c = true := by
 unfold aX1 at h
 simp only [bV8, decide_eq_true_eq, bX0] at h
 obtain ⟨⟨⟨⟨h1, h2⟩, h3⟩, h4⟩, h5⟩ := h
 exact ⟨h1, h2, h3, fun i hi => h4 _ (bX2 hi), h5⟩
inductive Rc (c : J1) : Int → Prop
 | zero : Rc c 0
 | step {i t : Int} : Rc c i → t ∈ nx c i → Rc c t
noncomputable def bT5 (c : J1) : List Bool := (bX4 c.list.length).map fun (j : Nat) => @decide (Rc c (j : Int)) (Classical.propDecidable _)
theorem aP9 {bs : List Bool} {k : Nat} (h : bs[k]? = some false) : (bs.set k true).count false + 1 = bs.count false := by
 induction bs generalizing k with
 | nil => simp at h
 | cons b r ih =>
  cases k with
  | zero => simp at h; subst h; simp
  | succ k =>
   simp at h
   have := ih h
   simp only [List.set_cons_succ, List.count_cons]
   omega
theorem aU1 {bs : List Bool} {k j : Nat} (h : (bs.set k true)[j]? = some true) : j = k ∨ bs[j]? = some true := by
 rw [List.getElem?_set] at h
 split at h
 ·rename_i e; exact .inl e.symm
 ·exact .inr h
theorem aZ7 {bs : List Bool} {k : Nat} (h : k < bs.length) : (bs.set k true)[k]? = some true := by simp [h]
structure bS5 (c : J1) (qs : List Int) (bs : List Bool) : Prop where
 len : bs.length = c.list.length
 cnt : qs.length + bs.count false = c.list.length
 q : ∀ t ∈ qs, 0 ≤ t ∧ t < c.list.length ∧ Rc c t
 sound : ∀ j : Nat, bs[j]? = some true → Rc c j
 inq : ∀ j : Nat, bs[j]? = some true → (j : Int) ∈ qs
 zero : bs[0]? = some true
theorem bS5.start {c : J1} (hc : aX1 c = true) : bS5 c [0] ((bV5 c.list.length false).set 0 true) := by
 have hn := (aw6 hc).2.1
 have hone : ∀ j : Nat, ((bV5 c.list.length false).set 0 true)[j]? = some true → j = 0 := by
  intro j h
  rcases aU1 h with h | h
  ·exact h
  ·rw [List.getElem?_replicate] at h; split at h <;> simp at h
 refine ⟨by simp, ?_, ?_, ?_, ?_, ?_⟩
 ·have := aP9 (bs := bV5 c.list.length false) (k := 0) (by rw [List.getElem?_replicate, if_pos (by omega)])
  simp at this ⊢
  omega
 ·intro t ht
  simp at ht; subst ht
  exact ⟨by omega, by omega, .zero⟩
 ·intro j h; rw [hone j h]; exact .zero
 ·intro j h; rw [hone j h]; simp
 ·exact aZ7 (by simp; omega)
structure by9 (c : J1) (ls : List Int) (bs : List Bool) : Prop where
 len : bs.length = c.list.length
 cnt : ls.length + 2 * bs.count false ≤ 2 * c.list.length + 1
 l : ∀ t ∈ ls, 0 ≤ t ∧ t < c.list.length ∧ Rc c t
 sound : ∀ j : Nat, bs[j]? = some true → Rc c j
 zero : bs[0]? = some true ∨ (0 : Int) ∈ ls
 clos : ∀ j : Nat, bs[j]? = some true → ∀ t ∈ nx c j, bs[t.toNat]? = some true ∨ t ∈ ls
theorem by9.start {c : J1} (hc : aX1 c = true) : by9 c [0] (bV5 c.list.length false) := by
 have hn := (aw6 hc).2.1
 refine ⟨by simp, by simp; omega, ?_, ?_, .inr (by simp), ?_⟩
 ·intro t ht
  simp at ht; subst ht
  exact ⟨by omega, by omega, .zero⟩
 ·intro j h; rw [List.getElem?_replicate] at h; split at h <;> simp at h
 ·intro j h; rw [List.getElem?_replicate] at h; split at h <;> simp at h
theorem by9.skip {c : J1} {ls : List Int} {i : Int} {bs : List Bool} (h : by9 c (ls ++ [i]) bs) (hb : bs[i.toNat]? = some true) : by9 c ls bs := by
 refine ⟨h.len, by have := h.cnt; simp at this; omega, fun t ht => h.l t (List.mem_append_left _ ht), h.sound, ?_, ?_⟩
 ·rcases h.zero with h0 | h0
  ·exact .inl h0
  ·rcases bY5.1 h0 with h0 | h0
   ·exact .inr h0
   ·simp at h0; subst h0; exact .inl hb
 ·intro j hj t ht
  rcases h.clos j hj t ht with h1 | h1
  ·exact .inl h1
  ·rcases bY5.1 h1 with h1 | h1
   ·exact .inr h1
   ·simp at h1; subst h1; exact .inl hb
end Go.Proofs.YthikdkjjdeehoaaGreat

namespace Go.Proofs.YthikdkjjdeehoaaGreat
set_option linter.unusedVariables false
set_option linter.unusedSimpArgs false
open Go Go.RowKit
section
variable {P : Program} {md : Region.Mode} {C : World → Prop}
theorem aw5 {listed : Array Bool} {i : Nat} (h : listed.getD i true = false) : (listed.setIfInBounds i true).toList.count false + 1 = listed.toList.count false := by
 rw [Array.toList_setIfInBounds]
 refine aP9 ?_
 rcases bY6 i listed.size with h' | h'
 ·simp [h'] at h ⊢; exact h
 ·simp [Array.getElem?_eq_none h'] at h
end
abbrev ints (l : List Int) : List Value := l.map (Value.int .i64)
theorem af8 (l : List Int) (k : Nat) (h : k < l.length) : (ints l)[k]? = some (.int .i64 l[k]) := by simp [ints, h]
theorem bH5 : (Tryz.prog.info? 3).map (fun i => (i.zero, i.size, i.bytes)) = some (some (.int .i64 0), 1, 8) := by kernel_rfl
theorem aK7 (v1 v2 : Value) (xs ys : List Int) (w : World) (h1 : V9 w v1 xs.length 1 (ints xs)) (h2 : V9 w v2 ys.length 1 (ints ys)) :
  Calls Tryz.prog 83 #[v1, v2] w fun e w' => e = .returned (.bool (decide (xs = ys))) ∧ ∃ n, w' = w.drewN n := by
 obtain ⟨a1, c1, rfl, -, hm1, -, hc1⟩ := h1.open1
 obtain ⟨a2, c2, rfl, -, hm2, -, hc2⟩ := h2.open1
 by_cases hl : xs.length = ys.length
 ·rw [← hl] at hc2 ⊢
  clear h1 h2 hm2
  go_enter Tryz.func83, Tryz.ntmps83
  go_wp2
  go_loopw [5] (fun i wr => ∃ k : Nat, k ≤ xs.length ∧ i = .int .i64 k ∧ xs.take k = ys.take k ∧ ∃ n, wr = w.drewN n) (fun i _ => xs.length - (intOf i).toNat)
  case atStart => exact ⟨0, bX5 _, rfl, rfl, 0, rfl⟩
  case round =>
   obtain ⟨k, hk, rfl, ht, nd, rfl⟩ := hrel
   have HT : Hid (xs.take k = ys.take k) := ht
   clear ht
   have HL : Hid (xs.length = ys.length) := hl
   clear hl
   by_cases hlt : k < xs.length
   ·have hlt2 : k < ys.length := by have := HL.out; omega
    obtain ⟨b1, o1, rfl, hb1, hx⟩ := hc1 k hlt
    obtain ⟨b2, o2, rfl, hb2, hy⟩ := hc2 k hlt
    rw [af8 _ _ hlt] at hx
    rw [af8 _ _ hlt2] at hy
    clear hc1 hc2
    go_wp2
    go_quiet (fail)
    go_wp2
    ·rename_i hd
     go_ret
     exact ⟨k8 (by symm; simp; intro h; subst h; simp at hd), _, by first | rfl | exact World.drewN_drewN _ _ _⟩
    ·rename_i hd
     refine ⟨⟨k + 1, by omega, by go_num, ah3 HT.out hlt hlt2 (by simpa using hd), _, by first | rfl | exact World.drewN_drewN _ _ _⟩, by simp [intOf]; omega⟩
   ·go_wp2
    go_ret
    exact ⟨k8 (by symm; simp; exact R4 HT.out (by omega) (by have := HL.out; omega)), _, rfl⟩
 ·have hne : ((xs.length : Int) == (ys.length : Int)) = false := by simp; omega
  clear hc1 hc2
  go_enter Tryz.func83, Tryz.ntmps83
  go_wp2
  go_ret
  exact ⟨k8 (by symm; simp; intro h; exact hl (by rw [h])), 0, rfl⟩
theorem aG9 (v : Value) (n : Nat) (xs : List Value) (m : Int) (w : World) (h : V9 w v n 1 xs) (hm : 0 ≤ m) (hm2 : m ≤ 1048576) :
  Calls Tryz.prog 75 #[v, .int .i64 m] w fun e w' => e = .returned (.int .i64 (L0 m n)) ∧ w = w' := by
 obtain ⟨a1, c1, rfl, -, hm1, -, hc1⟩ := h.open1
 clear hc1 h
 by_cases hlt : m < n
 all_goals
  go_enter Tryz.func75, Tryz.ntmps75
  go_wp2
  go_ret
  exact ⟨C1 (by unfold L0; split <;> omega), rfl⟩
theorem aG7 (v : Value) (xs : List Int) (w : World) (h : V9 w v xs.length 1 (ints xs)) (hb : xs.length ≤ 17592186044416) :
  Calls Tryz.prog 80 #[v] w fun e w' => ∃ u, e = .returned u ∧ R3 w' w.heap.size w'.heap.size 3 1 u xs.length (ints xs) ∧ Below w.heap.size w w' := by
 obtain ⟨a1, c1, rfl, -, hm1, -, hc1⟩ := h.open1
 clear h
 have hmk := av1 (P := Tryz.prog) (t := 23) Tryz.underlying23 bH5 rfl (by omega) xs.length (by omega) hm1
 have hown := au5 w (Value.int .i64 0).cells.toList xs.length 1 3 rfl hm1
 go_enter Tryz.func80, Tryz.ntmps80
 go_wp2
 clear hmk
 go_loopw [4] (fun i wr => ∃ (k : Nat) (ys : List Value), k ≤ xs.length ∧ i = .int .i64 k ∧ R3 wr w.heap.size (w.heap.size + 1) 3 1 (.slice (some ⟨w.heap.size, 0, none⟩) xs.length xs.length) xs.length ys ∧ ys.take k = (ints xs).take k ∧ Below w.heap.size w wr) (fun i _ => xs.length - (intOf i).toNat)
 case atStart => exact ⟨0, _, bX5 _, rfl, hown, rfl, (Below.refl _ _).alloc (bW6 _) _⟩
 case round =>
  obtain ⟨k, ys, hk, rfl, ho, ht, hbw⟩ := hrel
  have HT : Hid (ys.take k = (ints xs).take k) := ht
  clear ht hown
  by_cases hlt : k < xs.length
  ·obtain ⟨b1, o1, rfl, hb1, hx⟩ := hc1 k hlt
   rw [af8 _ _ hlt, ← (ac7 hbw).1 _ _ hb1] at hx
   have hyl : ys.length = xs.length := by rw [ho.1.1, Nat.mul_one]
   obtain ⟨g, cap, hv, hg1, hg2, hg3, hf, u0, hc⟩ := ho.at (j := k) (by omega)
   cases hv
   have HY : Hid (ys.length = xs.length) := hyl
   clear hc1 hyl
   go_wp2
   go_roundw
   case rel =>
    refine ⟨k + 1, ys.set k (.int .i64 xs[k]), by omega, by go_num, ho.setCell (by have := HY.out; omega) _, ?_, hbw.setCell (bW6 _) _⟩
    rw [W3 _ _ _ (by have := HY.out; omega), HT.out, m8 (ints xs) k (by simpa using hlt)]
    simp
   case measure => simp [intOf]; omega
  ·go_wp2
   go_ret
   have he : ys = ints xs := R4 HT.out (by rw [ho.1.1]; omega) (by simp; omega)
   subst he
   exact ⟨_, rfl, ho.wide (bW6 _) (by have := ho.lt _ rfl; omega), hbw⟩
def D7 (K n : Nat) : List Int := (bX4 n).map fun (j : Nat) => ((K : Int) + (j : Int))
theorem ar6 (K n : Nat) : (D7 K n).length = n := by simp [D7]
theorem bb0 (K n j : Nat) (h : j < (D7 K n).length) : (D7 K n)[j] = (K : Int) + (j : Int) := by simp [D7]
theorem aV6 (v : Value) (xs : List Int) (K lo hi : Nat) (w : World) (h : R3 w lo hi 3 1 v xs.length (ints xs)) (hK : K + xs.length ≤ 9000000000000000000) :
  Calls Tryz.prog 85 #[v, .int .i64 K] w fun e w' => e = .returned (.int .i64 (K + xs.length : Nat)) ∧ R3 w' lo hi 3 1 v xs.length (ints (D7 K xs.length)) ∧ Out lo hi w w' := by
 obtain ⟨a1, c1, rfl, -, hm1, -, -⟩ := h.row.open1
 go_enter Tryz.func85, Tryz.ntmps85
 go_wp2
 go_loopw [1, 5] (fun q i wr => ∃ (k : Nat) (ys : List Value), k ≤ xs.length ∧ q = .int .i64 ((K + k : Nat) : Int) ∧ i = .int .i64 k ∧ R3 wr lo hi 3 1 (.slice a1 xs.length c1) xs.length ys ∧ ys.take k = (ints (D7 K xs.length)).take k ∧ Out lo hi w wr) (fun _ i _ => xs.length - (intOf i).toNat)
 case atStart => exact ⟨0, _, bX5 _, rfl, rfl, h, rfl, Out.refl _ _ _⟩
 case round =>
  obtain ⟨k, ys, hk, rfl, rfl, ho, ht, hbw⟩ := hrel
  have HT : Hid (ys.take k = (ints (D7 K xs.length)).take k) := ht
  clear ht h
  by_cases hlt : k < xs.length
  ·have hyl : ys.length = xs.length := by rw [ho.1.1, Nat.mul_one]
   obtain ⟨g, cap, hv, hg1, hg2, hg3, hf, u0, hc⟩ := ho.at (j := k) (by omega)
   cases hv
   have HY : Hid (ys.length = xs.length) := hyl
   clear hyl
   go_wp2
   go_roundw
   case rel =>
    refine ⟨k + 1, _, by omega, by go_num, by go_num, ho.setCell (by have := HY.out; omega) _, ?_, hbw.setCell hg1 hg2 _⟩
    rw [W3 _ _ _ (by have := HY.out; omega), HT.out, m8 (ints _) k (by simpa [D7] using hlt)]
    simp [D7]
   case measure => simp [intOf]; omega
  ·go_wp2
   go_ret
   obtain rfl : k = xs.length := by omega
   have he : ys = ints (D7 K xs.length) := R4 HT.out (by rw [ho.1.1]; omega) (by simp [D7])
   subst he
   exact ⟨rfl, ho, hbw⟩
abbrev bN0 (w : World) (v : Value) (l : List l7) : Prop := V9 w v l.length 5 (ints (V4 l))
abbrev l7.v (x : l7) : Value := .agg #[.int .i64 x.op, .int .i64 x.a, .int .i64 x.b, .int .i64 x.c, .int .i64 x.d]
theorem bb3 (l : List Int) (p : Nat) (h : p + 5 ≤ l.length) : (ints l).take (p + 5) = (ints l).take p ++ [.int .i64 (l[p]'(by omega)), .int .i64 (l[p + 1]'(by omega)), .int .i64 (l[p + 2]'(by omega)), .int .i64 (l[p + 3]'(by omega)), .int .i64 (l[p + 4]'(by omega))] := by
 have hl : (ints l).length = l.length := by simp
 rw [m8 (ints l) (p + 4) (by omega), m8 (ints l) (p + 3) (by omega), m8 (ints l) (p + 2) (by omega), m8 (ints l) (p + 1) (by omega), m8 (ints l) p (by omega)]
 simp
theorem aJ0 (v : Value) (n : Nat) (xs : List Value) (K lo hi : Nat) (w : World) (h : R3 w lo hi 86 5 v n xs) (hK : K + n * 5 ≤ 9000000000000000000) :
  Calls Tryz.prog 90 #[v, .int .i64 K] w fun e w' => e = .returned (.int .i64 (K + n * 5 : Nat)) ∧ R3 w' lo hi 86 5 v n (ints (D7 K (n * 5))) ∧ Out lo hi w w' := by
 obtain ⟨a1, c1, rfl, -, hm1, -, -⟩ := h.row.open
 go_enter Tryz.func90, Tryz.ntmps90
 go_wp2_with fail
 go_loopw [1, 5] (fun q i wr => ∃ (k : Nat) (ys : List Value), k ≤ n ∧ q = .int .i64 ((K + k * 5 : Nat) : Int) ∧ i = .int .i64 k ∧ R3 wr lo hi 86 5 (.slice a1 n c1) n ys ∧ ys.take (k * 5) = (ints (D7 K (n * 5))).take (k * 5) ∧ Out lo hi w wr) (fun _ i _ => n - (intOf i).toNat)
 case atStart => exact ⟨0, _, bX5 _, rfl, rfl, h, rfl, Out.refl _ _ _⟩
 case round =>
  obtain ⟨k, ys, hk, rfl, rfl, ho, ht, hbw⟩ := hrel
  have HT : Hid (ys.take (k * 5) = (ints (D7 K (n * 5))).take (k * 5)) := ht
  clear ht h
  by_cases hlt : k < n
  ·have HY := show Hid (ys.length = n * 5) from ho.1.1
   have hin : ∀ j, j < 5 → k * 5 + j < ys.length := fun j hj => by rw [HY.out]; omega
   obtain ⟨g, cap, hv, hg1, hg2, hg3, f0, u0, y0⟩ := ho.at (hin 0 (by omega))
   cases hv
   obtain ⟨g, cap, hv, -, -, -, f1, u1, y1⟩ := ho.at (hin 1 (by omega))
   cases hv
   obtain ⟨g, cap, hv, -, -, -, f2, u2, y2⟩ := ho.at (hin 2 (by omega))
   cases hv
   obtain ⟨g, cap, hv, -, -, -, f3, u3, y3⟩ := ho.at (hin 3 (by omega))
   cases hv
   obtain ⟨g, cap, hv, -, -, -, f4, u4, y4⟩ := ho.at (hin 4 (by omega))
   cases hv
   simp only [bZ5] at f0 y0
   clear hin
   have hb5 : (K : Int) + k * 5 + 5 ≤ 9000000000000000000 := by have := hK; omega
   go_wp2_with fail
   refine ⟨⟨k + 1, _, by omega, ?_, by go_num, ho.setFrom [.int .i64 ((K + k * 5 : Nat) : Int), .int .i64 (((K + k * 5 : Nat) : Int) + 1), .int .i64 (((K + k * 5 : Nat) : Int) + 1 + 1), .int .i64 (((K + k * 5 : Nat) : Int) + 1 + 1 + 1), .int .i64 (((K + k * 5 : Nat) : Int) + 1 + 1 + 1 + 1)] (by simp; rw [HY.out]; omega), ?_, Out.setFrom [_, _, _, _, _] hbw hg1 hg2⟩, by simp [intOf]; omega⟩
   ·congr 1; omega
   ·rw [bY3, bb3 _ _ (by rw [ar6]; omega), ← HT.out]
    refine Eq.trans (T2 [_, _, _, _, _] _ _ (by simp; rw [HY.out]; omega)) ?_
    simp only [bb0]
    rw [List.append_cancel_left_eq]
    simp only [List.cons.injEq, Value.int.injEq, true_and, and_true]
    omega
  ·go_wp2_with fail
   go_ret
   obtain rfl : k = n := by omega
   have he : ys = ints (D7 K (k * 5)) := R4 HT.out (by rw [ho.1.1]; omega) (by simp [D7])
   subst he
   exact ⟨rfl, ho, hbw⟩
def aE4 (w : World) (v : Value) (c : J1) : Prop :=
 ∃ v1 v2 v3, v = .agg #[v1, v2, v3] ∧ V9 w v1 c.vars.length 1 (ints c.vars) ∧ V9 w v2 c.arrays.length 1 (ints c.arrays) ∧ bN0 w v3 c.list
def U5 (w : World) (lo hi : Nat) (v : Value) (c : J1) : Prop :=
 ∃ v1 v2 v3, v = .agg #[v1, v2, v3] ∧ R3 w lo hi 3 1 v1 c.vars.length (ints c.vars) ∧ R3 w lo hi 3 1 v2 c.arrays.length (ints c.arrays) ∧ R3 w lo hi 86 5 v3 c.list.length (ints (V4 c.list)) ∧
  bo0 v1 v2 ∧ bo0 v1 v3 ∧ bo0 v2 v3
theorem aE4.below {w w' : World} {v : Value} {c : J1} (h : aE4 w v c) (hb : Below w.heap.size w w') : aE4 w' v c := by
 obtain ⟨v1, v2, v3, rfl, h1, h2, h3⟩ := h
 exact ⟨v1, v2, v3, rfl, h1.below hb, h2.below hb, h3.below hb⟩
theorem U5.row {w : World} {lo hi : Nat} {v : Value} {c : J1} (h : U5 w lo hi v c) : aE4 w v c := by
 obtain ⟨v1, v2, v3, rfl, h1, h2, h3, _⟩ := h
 exact ⟨v1, v2, v3, rfl, h1.row, h2.row, h3.row⟩
theorem U5.keep {w w' : World} {lo hi B : Nat} {v : Value} {c : J1} (h : U5 w lo hi v c) (hb : Below B w w') (hB : hi ≤ B) : U5 w' lo hi v c := by
 obtain ⟨v1, v2, v3, rfl, h1, h2, h3, hd⟩ := h
 exact ⟨v1, v2, v3, rfl, h1.keep hb hB, h2.keep hb hB, h3.keep hb hB, hd⟩
theorem U5.out {w w' : World} {lo hi lo' hi' : Nat} {v : Value} {c : J1} (h : U5 w lo hi v c) (hb : Out lo' hi' w w') (hB : hi ≤ lo' ∨ hi' ≤ lo) : U5 w' lo hi v c := by
 obtain ⟨v1, v2, v3, rfl, h1, h2, h3, hd⟩ := h
 exact ⟨v1, v2, v3, rfl, h1.out hb hB, h2.out hb hB, h3.out hb hB, hd⟩
theorem U5.wide {w : World} {lo hi lo' hi' : Nat} {v : Value} {c : J1} (h : U5 w lo hi v c) (h1 : lo' ≤ lo) (h2 : hi ≤ hi') : U5 w lo' hi' v c := by
 obtain ⟨v1, v2, v3, rfl, g1, g2, g3, hd⟩ := h
 exact ⟨v1, v2, v3, rfl, g1.wide h1 h2, g2.wide h1 h2, g3.wide h1 h2, hd⟩
def aB1 (w : World) (v : Value) (K nv na nl : Nat) : Prop :=
 ∃ v1 v2 v3, v = .agg #[v1, v2, v3] ∧ V9 w v1 nv 1 (ints (D7 K nv)) ∧ V9 w v2 na 1 (ints (D7 (K + nv) na)) ∧ V9 w v3 nl 5 (ints (D7 (K + nv + na) (nl * 5)))
theorem aB1.below {w w' : World} {v : Value} {K nv na nl : Nat} (h : aB1 w v K nv na nl) (hb : Below w.heap.size w w') : aB1 w' v K nv na nl := by
 obtain ⟨v1, v2, v3, rfl, h1, h2, h3⟩ := h
 exact ⟨v1, v2, v3, rfl, h1.below hb, h2.below hb, h3.below hb⟩
theorem bv3 {l : List Int} : ∀ u ∈ ints l, u.oneCell' = true := by
 intro u hu
 obtain ⟨x, _, rfl⟩ := List.mem_map.1 hu
 rfl
theorem a03 {P : Program} {w : World} {lo : Nat} {t ty e : TypeId} {i : TypeInfo} {size : Nat} (ht : P.underlying t = some (.slice e)) (hi : P.info? e = some i)
  {v : Value} {n : Nat} {xs : List Value} (hown : w.ownsRow lo e size v n xs) (c : Nat) : (Builtin.append_ #[t, t] ty #[v, .slice none 0 c]).run P w = .ok v w := by
 obtain ⟨_, h⟩ := hown
 rcases h with ⟨rfl, rfl⟩ | ⟨g, cap, cur, rfl, _, _, hnc, _⟩
 ·simp [Builtin.append_, run_underlying ht, sizeOf, typeInfo, hi, Builtin.lenOf, Builtin.firstCells]
 ·simp [Builtin.append_, run_underlying ht, sizeOf, typeInfo, hi, Builtin.lenOf, Builtin.firstCells, hnc, storeCells]
theorem an0 {w : World} {lo : Nat} {e : TypeId} {sz : Nat} {v : Value} {n : Nat} {xs : List Value} (h : w.ownsRow lo e sz v n xs) : ∃ a k, v = .slice a n k := by
 rcases h.2 with ⟨rfl, rfl⟩ | ⟨g, cap, cur, rfl, _⟩
 ·exact ⟨_, _, rfl⟩
 ·exact ⟨_, _, rfl⟩
theorem au1 {P : Program} {w : World} {lo : Nat} {t ty e : TypeId} {z : Value} {size bytes : Nat} (ht : P.underlying t = some (.slice e)) (hi : (P.info? e).map (fun i => (i.zero, i.size, i.bytes)) = some (some z, size, bytes))
  (hzs : z.cells.size = size) (hsz : 0 < size) {v : Value} {n : Nat} {xs : List Value} (hown : w.ownsRow lo e size v n xs) {u : Value} {m : Nat} {news : List Value} (hr : V9 w u m size news) (h1 : ∀ u ∈ news, u.oneCell' = true)
  (h63 : n + m ≤ 9223372036854775807) (hbytes : (n + m) * bytes ≤ 140737488355328) (hbase : lo ≤ w.heap.size) :
  ∃ a' k' w', (Builtin.append_ #[t, t] ty #[v, u]).run P w = .ok (.slice a' (n + m) k') w' ∧ w'.ownsRow lo e size (.slice a' (n + m) k') (n + m) (xs ++ news) ∧ Below lo w w' ∧ w.grownBy w' v.ownBlock ∧ (∀ g, (Value.slice a' (n + m) k').ownBlock = some g → v.ownBlock = some g ∨ w.heap.size ≤ g) := by
 obtain ⟨i, g1, g2, g3, g4⟩ := info_parts hi
 obtain ⟨hl, A, c, rfl, hmc, hc, hA⟩ := hr
 have below_of : ∀ {w' : World}, w.grownBy w' v.ownBlock → Below lo w w' := fun {w'} hg => by
  refine ⟨hg.os, hg.tape, hg.output, hg.size, fun k hk => hg.block k (by omega) fun he => ?_⟩
  have := hown.lt k he.symm
  omega
 rcases A with _ | a
 ·have hm : m = 0 := by
   rcases Nat.eq_zero_or_pos m with h0 | h0
   ·exact h0
   ·obtain ⟨_, _, he, _⟩ := hA h0; cases he
  subst hm
  have hn : news = [] := bY8 (by simpa using hl)
  subst hn
  obtain ⟨a', k', rfl⟩ := an0 hown
  exact ⟨a', k', w, a03 ht g1 hown c, by simpa using hown, Below.refl _ _, ⟨rfl, rfl, rfl, bW6 _, fun _ _ _ => rfl⟩, fun g hg => .inl hg⟩
 ·have hcells : ∀ j u, news[j]? = some u → w.cell? (a.add j) = some u := by
   intro j u hu
   have h0 : 0 < m := by
    rcases Nat.eq_zero_or_pos m with h0 | h0
    ·subst h0
     have hn : news = [] := bY8 (by simpa using hl)
     subst hn; simp at hu
    ·exact h0
   obtain ⟨b, off, he, hb, hx⟩ := hA h0
   cases he
   have hadd : (⟨b, off, none⟩ : Addr).add j = ⟨b, off + j, none⟩ := by unfold Addr.add; split <;> simp_all
   rw [hadd]
   exact hx j u hu
  obtain ⟨v', w', hrun, h2, h3, _, h5⟩ := run_append_own_at (P := P) w lo t ty e i z size bytes ht g1 g2 g3 g4 hzs hsz v n xs hown a m c news hl hcells h1 (by unfold maxLen; omega) hbytes hbase
  obtain ⟨a', k', rfl⟩ := an0 h2
  exact ⟨a', k', w', hrun, h2, below_of h3, h3, fun g hg => h5.elim (fun h => .inl (h ▸ hg)) fun h => .inr (by rw [h] at hg; cases hg; exact bW6 _)⟩
theorem a83 {P : Program} {w : World} {ops : Array Oper} {rest : List Oper} {o : Oper} {a : Act} {Q : Exit → Act → World → Prop} {lo : Nat} {t e : TypeId} {z : Value} {size bytes : Nat} {v : Value} {n : Nat} {xs : List Value} {u : Value} {m : Nat} {news : List Value}
  (hgd : o.guard = none) (s x : Operand) (ho : o.op = .call { callee := .builtin .append, args := #[s, x], argTypes := #[t, t] })
  (ht : P.underlying t = some (.slice e)) (hi : (P.info? e).map (fun i => (i.zero, i.size, i.bytes)) = some (some z, size, bytes))
  (hzs : z.cells.size = size) (hsz : 0 < size) (hs : a.eval s = v) (hown : w.ownsRow lo e size v n xs) (hx : a.eval x = u) (hr : V9 w u m size news) (h1 : ∀ u ∈ news, u.oneCell' = true)
  (h63 : n + m ≤ 9223372036854775807) (hbytes : (n + m) * bytes ≤ 140737488355328) (hbase : lo ≤ w.heap.size)
  (h : ∀ a' k' w', w'.ownsRow lo e size (.slice a' (n + m) k') (n + m) (xs ++ news) → Below lo w w' → w.grownBy w' v.ownBlock → (∀ g, (Value.slice a' (n + m) k').ownBlock = some g → v.ownBlock = some g ∨ w.heap.size ≤ g) → wpList P ops Q rest (a.put o.dst (.slice a' (n + m) k')) w') : wpList P ops Q (o :: rest) a w := by
 refine wpList_plain hgd fun K hK => ?_
 obtain ⟨a', k', w', hrun, h2, h3, h4, h5⟩ := au1 (ty := o.type) ht hi hzs hsz hown hr h1 h63 hbytes hbase
 unfold Oper.wp execOp
 simp only [ho, resolve, invoke, builtin, Sem.run_bind, Sem.run_pure, Result.andThen_ok, List.map_toArray, bY9, List.map_nil, hs, hx, hrun]
 exact hK _ _ (h a' k' w' h2 h3 h4 h5)
section
variable {P : Program}
theorem bi9 {x : Oper} {a : Act} {w : World} {K : Act → World → Prop} {Q Q0 : Exit → Act → World → Prop} (h0 : ∀ e a w, Q0 e a w → e = .normal) (h : x.wp P a w K Q0) : x.wp P a w K Q := by
 unfold Oper.wp at *
 generalize (execOp a.eval x).run P w = r at *
 cases r with
 | ok n w' =>
  cases n <;> simp only [Oper.upon] at h ⊢ <;>
   first
    | exact h
    | exact Calls.mono h (fun e w'' he => by
      cases e
      ·exact he
      ·exact absurd (h0 _ _ _ he) (by simp)
      ·obtain ⟨a, w, hq⟩ := he; exact absurd (h0 _ _ _ hq) (by simp))
 | halt y w' =>
  cases y <;> simp only [Oper.upon] at h ⊢ <;> first | exact h | exact absurd (h0 _ _ _ h) (by simp)
end
section
variable {P : Program}
structure bV2 (mk : (Nat → Value) → Act) (C : World → Prop) (R : Nat → Value → World → Prop) (n : Nat) (listed : Array Bool) (f : Nat → Value) (a : Act) (w : World) : Prop where
 act : a = mk f
 cls : C w
 val : ∀ i, i < n → listed.getD i false = true → R i (f i) w
end
def N2 (φ φ' : Nat → Prop) (w w' : World) : Prop := w.heap.size ≤ w'.heap.size ∧ ∀ b, b < w.heap.size → φ b → φ' b ∧ w'.heap[b]? = w.heap[b]?
def aj4 (R : World → (Nat → Prop) → Prop) : Prop := ∀ w w' φ φ', N2 φ φ' w w' → R w φ → R w' φ'
theorem N2.below {φ : Nat → Prop} {w w' : World} (h : Below w.heap.size w w') : N2 φ φ w w' := ⟨h.size, fun b hb hf => ⟨hf, h.block b hb⟩⟩
theorem N2.mono {φ φ' : Nat → Prop} {w : World} (h : ∀ b, b < w.heap.size → φ b → φ' b) : N2 φ φ' w w := ⟨bW6 _, fun b hb hf => ⟨h b hb hf, rfl⟩⟩
theorem N2.cell {φ φ' : Nat → Prop} {w w' : World} (h : N2 φ φ' w w') {b o : Nat} (hb : b < w.heap.size) (hf : φ b) : w'.cell? ⟨b, o, none⟩ = w.cell? ⟨b, o, none⟩ := by
 simp only [World.cell?, (h.2 b hb hf).2]
def E9 (w : World) (φ : Nat → Prop) (v : Value) (n sz : Nat) (xs : List Value) : Prop :=
 xs.length = n * sz ∧ ∃ a cap, v = .slice a n cap ∧ n ≤ cap ∧ cap ≤ maxLen ∧
  (0 < n → ∃ b off, a = some ⟨b, off, none⟩ ∧ b < w.heap.size ∧ φ b ∧ ∀ j u, xs[j]? = some u → w.cell? ⟨b, off + j, none⟩ = some u)
theorem E9.nice (v : Value) (n sz : Nat) (xs : List Value) : aj4 fun w φ => E9 w φ v n sz xs := by
 rintro w w' φ φ' ha ⟨hl, a, cap, rfl, h1, h2, h3⟩
 refine ⟨hl, a, cap, rfl, h1, h2, fun hn => ?_⟩
 obtain ⟨b, off, rfl, hb, hf, hc⟩ := h3 hn
 exact ⟨b, off, rfl, bY4 hb ha.1, (ha.2 b hb hf).1, fun j u hj => (ha.cell hb hf).trans (hc j u hj)⟩
theorem E9.row {w : World} {φ : Nat → Prop} {v : Value} {n sz : Nat} {xs : List Value} (h : E9 w φ v n sz xs) : V9 w v n sz xs := by
 obtain ⟨hl, a, cap, rfl, h1, h2, h3⟩ := h
 refine ⟨hl, a, cap, rfl, h1, h2, fun hn => ?_⟩
 obtain ⟨b, off, rfl, hb, _, hc⟩ := h3 hn
 exact ⟨b, off, rfl, hb, hc⟩
theorem V9.rowF {w : World} {v : Value} {n sz : Nat} {xs : List Value} (h : V9 w v n sz xs) {φ : Nat → Prop} (hf : ∀ b, b < w.heap.size → φ b) : E9 w φ v n sz xs := by
 obtain ⟨hl, a, cap, rfl, h1, h2, h3⟩ := h
 refine ⟨hl, a, cap, rfl, h1, h2, fun hn => ?_⟩
 obtain ⟨b, off, rfl, hb, hc⟩ := h3 hn
 exact ⟨b, off, rfl, hb, hf b hb, hc⟩
theorem E9.nil (w : World) (φ : Nat → Prop) (sz : Nat) : E9 w φ (.slice none 0 0) 0 sz [] := ⟨by simp, none, 0, rfl, bW6 _, by unfold maxLen; omega, fun h => absurd h (by omega)⟩
theorem H1 {w : World} {lo : Nat} {e : TypeId} {sz : Nat} {v : Value} {n : Nat} {xs : List Value} (h : w.ownsRow lo e sz v n xs) {φ : Nat → Prop} (hf : ∀ g, v.ownBlock = some g → φ g) : E9 w φ v n sz xs := by
 obtain ⟨hl, a, cap, hv, h1, h2, h3⟩ := ab1 h
 refine ⟨hl, a, cap, hv, h1, h2, fun hn => ?_⟩
 obtain ⟨b, off, he, hb, hc⟩ := h3 hn
 refine ⟨b, off, he, hb, ?_, hc⟩
 rcases h.2 with ⟨hv', h0⟩ | ⟨g, cap', cur, hv', _⟩
 ·omega
 ·rw [hv'] at hv
  cases hv
  cases he
  exact hf _ (by rw [hv']; rfl)
inductive Y5 where
 | box (b : Nat) (cs : List Value)
 | row (e : TypeId) (sz : Nat) (v : Value) (n : Nat) (xs : List Value)
 | dat (R : World → (Nat → Prop) → Prop)
 | own (S : Nat → Prop) (R : World → Prop)
def Y5.blk : Y5 → Nat → Prop
 | .box b _ => fun g => g = b
 | .row _ _ v _ _ => fun g => v.ownBlock = some g
 | .dat _ => fun _ => False
 | .own S _ => S
def Fr (φ : Nat → Prop) (L : List Y5) (b : Nat) : Prop := φ b ∧ ∀ r ∈ L, ¬ r.blk b
def Y5.holds (w : World) (φ : Nat → Prop) : Y5 → Prop
 | .box b cs => Blk w b cs
 | .row e sz v n xs => w.ownsRow 0 e sz v n xs
 | .dat R => aj4 R ∧ R w φ
 | .own S R => (∀ w w', R w → (∀ b, S b → b < w.heap.size → w'.heap[b]? = w.heap[b]?) → R w') ∧ R w ∧ ∀ b, S b → b < w.heap.size
structure D0 (ψ : Nat → Prop) (w w' : World) : Prop where
 os : w'.os = w.os
 tape : w'.tape = w.tape
 output : w'.output = w.output
 size : w.heap.size ≤ w'.heap.size
 block : ∀ b, b < w.heap.size → ψ b → w'.heap[b]? = w.heap[b]?
theorem D0.refl (ψ : Nat → Prop) (w : World) : D0 ψ w w := ⟨rfl, rfl, rfl, bW6 _, fun _ _ _ => rfl⟩
theorem D0.trans {ψ : Nat → Prop} {a b c : World} (h : D0 ψ a b) (k : D0 ψ b c) : D0 ψ a c :=
 ⟨k.os.trans h.os, k.tape.trans h.tape, k.output.trans h.output, bX8 h.size k.size, fun i hi hp => (k.block i (bY4 hi h.size) hp).trans (h.block i hi hp)⟩
theorem D0.of_below {ψ : Nat → Prop} {w w' : World} {B : Nat} (h : Below B w w') (hB : ∀ b, b < w.heap.size → ψ b → b < B) : D0 ψ w w' := ⟨h.os, h.tape, h.output, h.size, fun b hb hp => h.block b (hB b hb hp)⟩
theorem D0.below {w w' : World} {ψ : Nat → Prop} (h : D0 ψ w w') (hp : ∀ b, b < w.heap.size → ψ b) : Below w.heap.size w w' := ⟨h.os, h.tape, h.output, h.size, fun b hb => h.block b hb (hp b hb)⟩
structure C2 (φ ψ : Nat → Prop) (w0 w : World) (L : List Y5) : Prop where
 kept : D0 ψ w0 w
 fresh : ∀ b, w0.heap.size ≤ b → φ b
 holds : ∀ (r : Y5), r ∈ L → r.holds w (Fr φ L)
 dis : ∀ (i j : Nat) (a b : Y5) (g : Nat), L[i]? = some a → L[j]? = some b → i ≠ j → a.blk g → ¬ b.blk g
 ge : ∀ (r : Y5) (b : Nat), r ∈ L → r.blk b → w0.heap.size ≤ b ∨ ¬ ψ b
section
variable {φ ψ : Nat → Prop} {w0 w w' : World} {L : List Y5}
theorem C2.start (hf : ∀ b, w0.heap.size ≤ b → φ b) : C2 φ ψ w0 w0 [] := ⟨D0.refl _ _, hf, (fun _ h => by cases h), (fun i j a b g h => by simp at h), (fun _ _ h => by cases h)⟩
theorem Y5.lt {r : Y5} (h : r.holds w φ) {b : Nat} (hb : r.blk b) : b < w.heap.size := by
 cases r with
 | box b' cs => cases hb; exact Blk.lt h
 | row e sz v n xs => exact (World.ownsRow.lt h b hb).2
 | dat R => cases hb
 | own S R => exact h.2.2 b hb
theorem C2.lt (M : C2 φ ψ w0 w L) {r : Y5} (hr : r ∈ L) {b : Nat} (hb : r.blk b) : b < w.heap.size := Y5.lt (M.holds r hr) hb
theorem C2.size (M : C2 φ ψ w0 w L) : w0.heap.size ≤ w.heap.size := M.kept.size
theorem C2.below (M : C2 φ ψ w0 w L) (hp : ∀ b, b < w0.heap.size → ψ b) : Below w0.heap.size w0 w := M.kept.below hp
theorem Y5.keep {φ' : Nat → Prop} {r : Y5} (h : r.holds w φ) (ha : N2 φ φ' w w') (hb : ∀ b, r.blk b → w'.heap[b]? = w.heap[b]?) : r.holds w' φ' := by
 cases r with
 | box b cs => obtain ⟨T, h⟩ := h; exact ⟨T, (hb b rfl).trans h⟩
 | row e sz v n xs => exact (R3.same (lo := 0) (hi := w.heap.size) ⟨h, fun g hg => (World.ownsRow.lt h g hg).2⟩ hb).1
 | dat R => exact ⟨h.1, h.1 _ _ _ _ ha h.2⟩
 | own S R => exact ⟨h.1, h.1 _ _ h.2.1 fun b hs _ => hb b hs, fun b hs => bY4 (h.2.2 b hs) ha.1⟩
theorem C2.call (M : C2 φ ψ w0 w L) (b : Below w.heap.size w w') : C2 φ ψ w0 w' L :=
 ⟨M.kept.trans (D0.of_below b fun _ h _ => h), M.fresh, fun r hr => Y5.keep (M.holds r hr) (N2.below b) fun g hg => b.block g (M.lt hr hg), M.dis, M.ge⟩
theorem C2.drew (M : C2 φ ψ w0 w L) : C2 φ ψ w0 w.drew L := M.call (Below.refl _ _).drew
theorem Fr.snoc {r : Y5} {b : Nat} : Fr φ (L ++ [r]) b ↔ Fr φ L b ∧ ¬ r.blk b := by
 unfold Fr
 constructor
 ·rintro ⟨h1, h2⟩; exact ⟨⟨h1, fun x hx => h2 x (by simp [hx])⟩, h2 r (by simp)⟩
 ·rintro ⟨⟨h1, h2⟩, h3⟩
  refine ⟨h1, fun x hx => ?_⟩
  simp only [bY5, bY7] at hx
  rcases hx with hx | rfl
  ·exact h2 x hx
  ·exact h3
theorem C2.add (M : C2 φ ψ w0 w L) (b : Below w.heap.size w w') (r : Y5) (h : r.holds w' (Fr φ (L ++ [r]))) (hg : ∀ g, r.blk g → w.heap.size ≤ g) : C2 φ ψ w0 w' (L ++ [r]) := by
 have M' := M.call b
 refine ⟨M'.kept, M.fresh, fun x hx => ?_, fun i j x y g hi hj hij hx hy => ?_, fun x g hx hxg => ?_⟩
 ·simp only [bY5, bY7] at hx
  rcases hx with hx | rfl
  ·exact Y5.keep (M.holds x hx) ⟨b.size, fun c hc hf => ⟨Fr.snoc.2 ⟨hf, fun he => by have := hg c he; omega⟩, b.block c hc⟩⟩ fun g hgx => b.block g (M.lt hx hgx)
  ·exact h
 ·have lt : ∀ (k : Nat) (z : Y5), (L ++ [r])[k]? = some z → (k < L.length ∧ L[k]? = some z) ∨ (k = L.length ∧ z = r) := by
   intro k z hz
   rcases bY6 k L.length with hk | hk
   ·rw [bX7 hk] at hz; exact .inl ⟨hk, hz⟩
   ·rw [bZ0 hk] at hz
    have : k - L.length = 0 := by
     rcases Nat.eq_zero_or_pos (k - L.length) with h | h
     ·exact h
     ·rw [bY0 (by rw [List.length_singleton]; exact h)] at hz; cases hz
    rw [this] at hz; simp at hz
    exact .inr ⟨by omega, hz.symm⟩
  rcases lt i x hi with ⟨hi', h1⟩ | ⟨hi', rfl⟩ <;> rcases lt j y hj with ⟨hj', h2⟩ | ⟨hj', rfl⟩
  ·exact M.dis i j x y g h1 h2 hij hx hy
  ·have := M.lt (bX1 h1) hx; have := hg g hy; omega
  ·have := M.lt (bX1 h2) hy; have := hg g hx; omega
  ·omega
 ·simp only [bY5, bY7] at hx
  rcases hx with hx | rfl
  ·exact M.ge x g hx hxg
  ·exact .inl (bX8 M.size (hg g hxg))
theorem C2.box (M : C2 φ ψ w0 w L) (cs : List Value) (T : TypeId) : C2 φ ψ w0 (w.alloc (.cells cs.toArray T)) (L ++ [.box w.heap.size cs]) :=
 M.add ((Below.refl _ _).alloc (bW6 _) _) _ (Blk.new w cs T) fun g hg => by cases hg; exact bW6 _
theorem C2.box' (M : C2 φ ψ w0 w L) (cs : List Value) (T : TypeId) {b : Nat} (hb : b = w.heap.size) : C2 φ ψ w0 (w.alloc (.cells cs.toArray T)) (L ++ [.box b cs]) := by subst hb; exact M.box cs T
theorem C2.dat (M : C2 φ ψ w0 w L) {R : World → (Nat → Prop) → Prop} (hn : aj4 R) (h : R w (Fr φ L)) : C2 φ ψ w0 w (L ++ [.dat R]) :=
 M.add (Below.refl _ _) _ ⟨hn, hn _ _ _ _ (N2.mono fun b _ hf => Fr.snoc.2 ⟨hf, fun h => by cases h⟩) h⟩ fun g hg => by cases hg
theorem C2.callR (M : C2 φ ψ w0 w L) (b : Below w.heap.size w w') {e : TypeId} {sz : Nat} {v : Value} {n : Nat} {xs : List Value} (h : w'.ownsRow w.heap.size e sz v n xs) : C2 φ ψ w0 w' (L ++ [.row e sz v n xs]) :=
 M.add b _ (I2 h (bX5 _)) fun g hg => (h.lt g hg).1
theorem C2.nil (M : C2 φ ψ w0 w L) (e : TypeId) (sz : Nat) : C2 φ ψ w0 w (L ++ [.row e sz (.slice none 0 0) 0 []]) :=
 M.add (Below.refl _ _) _ (World.ownsRow_nil _ _ _ _) fun g hg => by cases hg
theorem Fr.set {r : Y5} {i : Nat} {a : Y5} (_hi : L[i]? = some a) {b : Nat} (h : Fr φ L b) (hr : ¬ r.blk b) : Fr φ (L.set i r) b :=
 ⟨h.1, fun x hx => by
  rcases List.mem_or_eq_of_mem_set hx with hx | rfl
  ·exact h.2 x hx
  ·exact hr⟩
theorem C2.put (M : C2 φ ψ w0 w L) {i : Nat} {a : Y5} (hi : L[i]? = some a) (r : Y5) (hk : D0 (fun b => ¬ a.blk b) w w') (h : r.holds w' (Fr φ (L.set i r))) (hg : ∀ g, r.blk g → a.blk g ∨ w.heap.size ≤ g) : C2 φ ψ w0 w' (L.set i r) := by
 have hil := (bW9.1 hi).1
 have ha := bX1 hi
 have get : ∀ (j : Nat) (z : Y5), (L.set i r)[j]? = some z → (j ≠ i ∧ L[j]? = some z) ∨ (j = i ∧ z = r) := by
  intro j z hz
  by_cases e : j = i
  ·subst e; rw [List.getElem?_set_self hil] at hz; exact .inr ⟨rfl, (Option.some.inj hz).symm⟩
  ·rw [List.getElem?_set_ne (fun h => e h.symm)] at hz; exact .inl ⟨e, hz⟩
 refine ⟨⟨hk.os.trans M.kept.os, hk.tape.trans M.kept.tape, hk.output.trans M.kept.output, bX8 M.size hk.size, fun b hb hp => (hk.block b (bY4 hb M.size) fun he => ?_).trans (M.kept.block b hb hp)⟩, M.fresh, fun x hx => ?_, fun j k x y g hj hk' hjk hx hy => ?_, fun x g hx hxg => ?_⟩
 ·rcases M.ge a b ha he with h' | h'
  ·omega
  ·exact h' hp
 ·obtain ⟨j, hj⟩ := List.mem_iff_getElem?.1 hx
  rcases get j x hj with ⟨hne, hj'⟩ | ⟨_, rfl⟩
  ·refine Y5.keep (M.holds x (bX1 hj')) ⟨hk.size, fun b hb hf => ⟨Fr.set hi hf fun he => ?_, hk.block b hb (hf.2 a ha)⟩⟩ fun g hgx => hk.block g (M.lt (bX1 hj') hgx) fun he => M.dis i j a x g hi hj' (fun e => hne e.symm) he hgx
   rcases hg b he with h' | h'
   ·exact hf.2 a ha h'
   ·omega
  ·exact h
 ·rcases get j x hj with ⟨hne, hj'⟩ | ⟨e1, rfl⟩ <;> rcases get k y hk' with ⟨hne', hk''⟩ | ⟨e2, rfl⟩
  ·exact M.dis j k x y g hj' hk'' hjk hx hy
  ·rcases hg g hy with h' | h'
   ·exact M.dis j i x a g hj' hi hne hx h'
   ·have := M.lt (bX1 hj') hx; omega
  ·rcases hg g hx with h' | h'
   ·exact M.dis i k a y g hi hk'' (fun e => hne' e.symm) h' hy
   ·have := M.lt (bX1 hk'') hy; omega
  ·omega
 ·obtain ⟨j, hj⟩ := List.mem_iff_getElem?.1 hx
  rcases get j x hj with ⟨hne, hj'⟩ | ⟨_, rfl⟩
  ·exact M.ge x g (bX1 hj') hxg
  ·rcases hg g hxg with h' | h'
   ·exact M.ge a g ha h'
   ·exact .inl (bX8 M.size h')
theorem D0.mono {ψ ψ' : Nat → Prop} {w w' : World} (h : D0 ψ w w') (hp : ∀ b, ψ' b → ψ b) : D0 ψ' w w' := ⟨h.os, h.tape, h.output, h.size, fun b hb hp' => h.block b hb (hp b hp')⟩
theorem D0.setCell (w : World) (b j : Nat) (u : Value) : D0 (fun c => ¬ c = b) w (w.setCell ⟨b, j, none⟩ u) :=
 ⟨rfl, rfl, rfl, by simp [World.setCell], fun c _ hc => Below.heap_setCell _ _ _ _ hc⟩
theorem C2.set (M : C2 φ ψ w0 w L) (i : Nat) {b : Nat} {cs : List Value} (hi : L[i]? = some (.box b cs)) (j : Nat) (u : Value) : C2 φ ψ w0 (w.setCell ⟨b, j, none⟩ u) (L.set i (.box b (cs.set j u))) :=
 M.put hi _ (D0.setCell w b j u) (Blk.set (M.holds _ (bX1 hi)) u) fun _ hg => .inl hg
theorem C2.setFrom (us : List Value) : ∀ {w : World} {L : List Y5} {p : Nat} {cs : List Value}, C2 φ ψ w0 w L → ∀ (i : Nat) {b : Nat}, L[i]? = some (.box b cs) → C2 φ ψ w0 (World.setFrom w b p us) (L.set i (.box b (Go.Proofs.YthikdkjjdeehoaaGreat.setFrom cs p us))) := by
 induction us with
 | nil =>
  intro w L p cs M i b hi
  have : L.set i (.box b cs) = L := by
   apply List.ext_getElem?
   intro j
   rw [List.getElem?_set]
   split
   ·rename_i e; subst e; rw [if_pos (bW9.1 hi).1, hi]
   ·rfl
  show C2 φ ψ w0 w (L.set i (.box b cs))
  rw [this]; exact M
 | cons u r ih =>
  intro w L p cs M i b hi
  have h1 := M.set i hi p u
  have h2 := ih (p := p + 1) h1 i (by rw [List.getElem?_set_self (bW9.1 hi).1])
  rw [List.set_set] at h2
  exact h2
theorem aZ9 {cs us : List Value} (h : us.length = cs.length) : Go.Proofs.YthikdkjjdeehoaaGreat.setFrom cs 0 us = us := by
 have h1 := T2 us cs 0 (by omega)
 rw [bZ2, bW5 (by rw [L1]; omega)] at h1
 simpa using h1
theorem C2.fill (M : C2 φ ψ w0 w L) (i : Nat) {b : Nat} {cs : List Value} (hi : L[i]? = some (.box b cs)) (us : List Value) (h : us.length = cs.length) : C2 φ ψ w0 (World.setFrom w b 0 us) (L.set i (.box b us)) := by
 have h1 := M.setFrom us (p := 0) i hi
 rwa [aZ9 h] at h1
theorem C2.callB (M : C2 φ ψ w0 w L) (i : Nat) {b : Nat} {cs cs' : List Value} (hi : L[i]? = some (.box b cs)) (hk : D0 (fun c => ¬ c = b) w w') (h : Blk w' b cs') : C2 φ ψ w0 w' (L.set i (.box b cs')) :=
 M.put hi _ hk h fun _ hg => .inl hg
theorem C2.rowSet (M : C2 φ ψ w0 w L) (i : Nat) {e : TypeId} {sz n cap g : Nat} {xs : List Value} (hi : L[i]? = some (.row e sz (.slice (some ⟨g, 0, none⟩) n cap) n xs)) {j : Nat} (hj : j < xs.length) (u : Value) :
  C2 φ ψ w0 (w.setCell ⟨g, j, none⟩ u) (L.set i (.row e sz (.slice (some ⟨g, 0, none⟩) n cap) n (xs.set j u))) :=
 M.put hi _ ((D0.setCell w g j u).mono fun b hb e => hb (by rw [e]; rfl)) (R3.setCell (R3.mk' (M.holds _ (bX1 hi))) hj u).1 fun _ hg => .inl hg
theorem C2.app (M : C2 φ ψ w0 w L) (i : Nat) {e : TypeId} {sz : Nat} {v v' : Value} {n n' : Nat} {xs xs' : List Value} (hi : L[i]? = some (.row e sz v n xs)) (h : w'.ownsRow 0 e sz v' n' xs') (hg : w.grownBy w' v.ownBlock) (hb : ∀ g, v'.ownBlock = some g → v.ownBlock = some g ∨ w.heap.size ≤ g) :
  C2 φ ψ w0 w' (L.set i (.row e sz v' n' xs')) :=
 M.put hi _ ⟨hg.os, hg.tape, hg.output, hg.size, fun b hb hn => hg.block b hb fun h => hn h.symm⟩ h hb
theorem C2.callO (M : C2 φ ψ w0 w L) (b : Below w.heap.size w w') {S : Nat → Prop} {R : World → Prop} (hR : ∀ w w', R w → (∀ b, S b → b < w.heap.size → w'.heap[b]? = w.heap[b]?) → R w') (h : R w') (hs : ∀ b, S b → w.heap.size ≤ b ∧ b < w'.heap.size) : C2 φ ψ w0 w' (L ++ [.own S R]) :=
 M.add b _ ⟨hR, h, fun b hb => (hs b hb).2⟩ fun g hg => (hs g hg).1
theorem C2.turn (M : C2 φ ψ w0 w L) (i : Nat) {S : Nat → Prop} {R R' : World → Prop} (hi : L[i]? = some (.own S R)) (hk : D0 (fun b => ¬ S b) w w') (hR : ∀ w w', R' w → (∀ b, S b → b < w.heap.size → w'.heap[b]? = w.heap[b]?) → R' w') (h : R' w') : C2 φ ψ w0 w' (L.set i (.own S R')) :=
 M.put hi _ hk ⟨hR, h, fun b hb => bY4 ((M.holds _ (bX1 hi)).2.2 b hb) hk.size⟩ fun _ hg => .inl hg
theorem C2.o (M : C2 φ ψ w0 w L) (i : Nat) {S : Nat → Prop} {R : World → Prop} (hi : L[i]? = some (.own S R)) : R w := (M.holds _ (bX1 hi)).2.1
theorem C2.take (M : C2 φ ψ w0 w L) (k : Nat) : C2 φ ψ w0 w (L.take k) :=
 ⟨M.kept, M.fresh, fun r hr => Y5.keep (M.holds r (List.mem_of_mem_take hr)) (N2.mono fun _ _ hf => ⟨hf.1, fun x hx => hf.2 x (List.mem_of_mem_take hx)⟩) fun _ _ => rfl,
  fun i j a b g hi hj hij => M.dis i j a b g (by rw [List.getElem?_take] at hi; split at hi; exact hi; cases hi) (by rw [List.getElem?_take] at hj; split at hj; exact hj; cases hj) hij, fun r b hr => M.ge r b (List.mem_of_mem_take hr)⟩
theorem C2.sel (M : C2 φ ψ w0 w L) (is : List Nat) (L' : List Y5) (h : L'.map some = is.map fun i => L[i]?) (hn : is.Nodup) : C2 φ ψ w0 w L' := by
 have hl : L'.length = is.length := by simpa using congrArg List.length h
 have get : ∀ (j : Nat) (r : Y5), L'[j]? = some r → ∃ i, is[j]? = some i ∧ L[i]? = some r := by
  intro j r hj
  have h1 : (L'.map some)[j]? = some (some r) := by simp [hj]
  rw [h, List.getElem?_map] at h1
  cases hi : is[j]? with
  | none => rw [hi] at h1; cases h1
  | some i => rw [hi] at h1; exact ⟨i, rfl, Option.some.inj h1⟩
 have mem : ∀ r, r ∈ L' → r ∈ L := fun r hr => by
  obtain ⟨j, hj⟩ := List.mem_iff_getElem?.1 hr
  obtain ⟨i, _, hi⟩ := get j r hj
  exact bX1 hi
 refine ⟨M.kept, M.fresh, fun r hr => Y5.keep (M.holds r (mem r hr)) (N2.mono fun _ _ hf => ⟨hf.1, fun x hx => hf.2 x (mem x hx)⟩) fun _ _ => rfl, fun j k a b g hj hk hjk ha hb => ?_, fun r b hr => M.ge r b (mem r hr)⟩
 obtain ⟨i1, e1, h1⟩ := get j a hj
 obtain ⟨i2, e2, h2⟩ := get k b hk
 refine M.dis i1 i2 a b g h1 h2 (fun e => hjk ?_) ha hb
 subst e
 have hlt := (bW9.1 e1).1
 exact (List.getElem?_inj hlt hn).1 (e1.trans e2.symm)
theorem C2.c (M : C2 φ ψ w0 w L) (i j : Nat) {b : Nat} {cs : List Value} {u : Value} (hi : L[i]? = some (.box b cs)) (hj : cs[j]? = some u) : w.cell? ⟨b, j, none⟩ = some u :=
 (Blk.cell (M.holds _ (bX1 hi)) j).trans hj
theorem C2.f (M : C2 φ ψ w0 w L) (i : Nat) {b : Nat} {cs : List Value} (hi : L[i]? = some (.box b cs)) : ∀ j, w.frozen? ⟨b, j, none⟩ = false := Blk.free (M.holds _ (bX1 hi))
theorem C2.blk (M : C2 φ ψ w0 w L) (i : Nat) {b : Nat} {cs : List Value} (hi : L[i]? = some (.box b cs)) : Blk w b cs := M.holds _ (bX1 hi)
theorem C2.r (M : C2 φ ψ w0 w L) (i : Nat) {e : TypeId} {sz : Nat} {v : Value} {n : Nat} {xs : List Value} (hi : L[i]? = some (.row e sz v n xs)) : w.ownsRow 0 e sz v n xs := M.holds _ (bX1 hi)
theorem C2.d (M : C2 φ ψ w0 w L) (i : Nat) {R : World → (Nat → Prop) → Prop} (hi : L[i]? = some (.dat R)) : R w (Fr φ L) := (M.holds _ (bX1 hi)).2
theorem C2.dn (M : C2 φ ψ w0 w L) (i : Nat) {R : World → (Nat → Prop) → Prop} (hi : L[i]? = some (.dat R)) : aj4 R := (M.holds _ (bX1 hi)).1
theorem C2.out (M : C2 φ ψ w0 w L) (i : Nat) {R : World → (Nat → Prop) → Prop} (hi : L[i]? = some (.dat R)) : R w φ := M.dn i hi _ _ _ _ (N2.mono fun _ _ hf => hf.1) (M.d i hi)
theorem C2.as (M : C2 φ ψ w0 w L) (L' : List Y5) (h : L = L') : C2 φ ψ w0 w L' := h ▸ M
end
inductive Rs where
 | box (b : Nat) (cs : List Value)
 | row (e : TypeId) (sz : Nat) (v : Value) (n : Nat) (R : List Value → World → (Nat → Prop) → Prop)
 | dat (R : World → (Nat → Prop) → Prop)
 | own (S : Nat → Prop) (R : World → Prop)
def Rs.none : Rs := .dat fun _ _ => True
def Rs.blk : Rs → Nat → Prop
 | .box b _ => fun g => g = b
 | .row _ _ v _ _ => fun g => v.ownBlock = some g
 | .dat _ => fun _ => False
 | .own S _ => S
def FrF {ι : Type} (φ : Nat → Prop) (L : ι → Rs) (b : Nat) : Prop := φ b ∧ ∀ i, ¬ (L i).blk b
def Rs.holds (w : World) (φ : Nat → Prop) : Rs → Prop
 | .box b cs => Blk w b cs
 | .row e sz v n R => (∀ xs, aj4 (R xs)) ∧ ∃ xs, w.ownsRow 0 e sz v n xs ∧ R xs w φ
 | .dat R => aj4 R ∧ R w φ
 | .own S R => (∀ w w', R w → (∀ b, S b → b < w.heap.size → w'.heap[b]? = w.heap[b]?) → R w') ∧ R w ∧ ∀ b, S b → b < w.heap.size
theorem bk7 : aj4 fun _ _ => True := fun _ _ _ _ _ h => h
theorem Rs.none_holds (w : World) (φ : Nat → Prop) : Rs.none.holds w φ := ⟨bk7, bW1⟩
structure s7 {ι : Type} (φ ψ : Nat → Prop) (w0 w : World) (L : ι → Rs) : Prop where
 kept : D0 ψ w0 w
 fresh : ∀ b, w0.heap.size ≤ b → φ b
 holds : ∀ i, (L i).holds w (FrF φ L)
 dis : ∀ i j g, i ≠ j → (L i).blk g → ¬ (L j).blk g
 ge : ∀ i b, (L i).blk b → w0.heap.size ≤ b ∨ ¬ ψ b
 ph : ∀ i b, (L i).blk b → φ b
section
variable {ι κ : Type} {φ ψ : Nat → Prop} {w0 w w' : World} {L : ι → Rs}
theorem Rs.lt {r : Rs} (h : r.holds w φ) {b : Nat} (hb : r.blk b) : b < w.heap.size := by
 cases r with
 | box b' cs => cases hb; exact Blk.lt h
 | row e sz v n R => obtain ⟨_, xs, h1, _⟩ := h; exact (World.ownsRow.lt h1 b hb).2
 | dat R => cases hb
 | own S R => exact h.2.2 b hb
theorem s7.lt (M : s7 φ ψ w0 w L) {i : ι} {b : Nat} (hb : (L i).blk b) : b < w.heap.size := Rs.lt (M.holds i) hb
theorem s7.size (M : s7 φ ψ w0 w L) : w0.heap.size ≤ w.heap.size := M.kept.size
theorem Rs.keep {φ' : Nat → Prop} {r : Rs} (h : r.holds w φ) (ha : N2 φ φ' w w') (hb : ∀ b, r.blk b → w'.heap[b]? = w.heap[b]?) : r.holds w' φ' := by
 cases r with
 | box b cs => obtain ⟨T, h⟩ := h; exact ⟨T, (hb b rfl).trans h⟩
 | row e sz v n R =>
  obtain ⟨hn, xs, h1, h2⟩ := h
  exact ⟨hn, xs, (R3.same (lo := 0) (hi := w.heap.size) ⟨h1, fun g hg => (World.ownsRow.lt h1 g hg).2⟩ hb).1, hn xs _ _ _ _ ha h2⟩
 | dat R => exact ⟨h.1, h.1 _ _ _ _ ha h.2⟩
 | own S R => exact ⟨h.1, h.1 _ _ h.2.1 fun b hs _ => hb b hs, fun b hs => bY4 (h.2.2 b hs) ha.1⟩
theorem s7.call (M : s7 φ ψ w0 w L) (b : Below w.heap.size w w') : s7 φ ψ w0 w' L :=
 ⟨M.kept.trans (D0.of_below b fun _ h _ => h), M.fresh, fun i => Rs.keep (M.holds i) (N2.below b) fun g hg => b.block g (M.lt hg), M.dis, M.ge, M.ph⟩
theorem s7.drew (M : s7 φ ψ w0 w L) : s7 φ ψ w0 w.drew L := M.call (Below.refl _ _).drew
theorem s7.put (M : s7 φ ψ w0 w L) (i : ι) {L' : ι → Rs} (ho : ∀ j, j ≠ i → L' j = L j) (hk : D0 (fun b => ¬ (L i).blk b) w w') (h : (L' i).holds w' (FrF φ L')) (hg : ∀ g, (L' i).blk g → (L i).blk g ∨ w.heap.size ≤ g) : s7 φ ψ w0 w' L' := by
 have hfr : ∀ b, b < w.heap.size → FrF φ L b → FrF φ L' b := fun b hb hf => ⟨hf.1, fun j hj => by
  by_cases e : j = i
  ·subst e
   rcases hg b hj with h | h
   ·exact hf.2 _ h
   ·omega
  ·rw [ho j e] at hj; exact hf.2 _ hj⟩
 refine ⟨⟨hk.os.trans M.kept.os, hk.tape.trans M.kept.tape, hk.output.trans M.kept.output, bX8 M.size hk.size, fun b hb hp => (hk.block b (bY4 hb M.size) fun he => ?_).trans (M.kept.block b hb hp)⟩, M.fresh, fun j => ?_, fun j k g hjk hj hk' => ?_, fun j b hj => ?_, fun j b hj => ?_⟩
 ·rcases M.ge i b he with h' | h'
  ·omega
  ·exact h' hp
 ·by_cases e : j = i
  ·subst e; exact h
  ·rw [ho j e]
   exact Rs.keep (M.holds j) ⟨hk.size, fun b hb hf => ⟨hfr b hb hf, hk.block b hb (hf.2 i)⟩⟩ fun g hgx => hk.block g (M.lt hgx) fun he => M.dis j i g e hgx he
 ·by_cases e : j = i
  ·subst e
   rw [ho k (fun e => hjk e.symm)] at hk'
   rcases hg g hj with h' | h'
   ·exact M.dis _ _ g hjk h' hk'
   ·have := M.lt hk'; omega
  ·rw [ho j e] at hj
   by_cases e' : k = i
   ·subst e'
    rcases hg g hk' with h' | h'
    ·exact M.dis _ _ g hjk hj h'
    ·have := M.lt hj; omega
   ·rw [ho k e'] at hk'; exact M.dis _ _ g hjk hj hk'
 ·by_cases e : j = i
  ·subst e
   rcases hg b hj with h' | h'
   ·exact M.ge _ b h'
   ·exact .inl (bX8 M.size h')
  ·rw [ho j e] at hj; exact M.ge _ b hj
 ·by_cases e : j = i
  ·subst e
   rcases hg b hj with h' | h'
   ·exact M.ph _ b h'
   ·exact M.fresh b (bX8 M.size h')
  ·rw [ho j e] at hj; exact M.ph _ b hj
theorem s7.map (M : s7 φ ψ w0 w L) {L' : κ → Rs} (g : κ → Option ι) (hi : ∀ k k' i, g k = some i → g k' = some i → k = k') (h : ∀ k, (∃ i, g k = some i ∧ L' k = L i) ∨ L' k = Rs.none) : s7 φ ψ w0 w L' := by
 have hb : ∀ k b, (L' k).blk b → ∃ i, g k = some i ∧ L' k = L i := fun k b hb => by
  rcases h k with h | h
  ·exact h
  ·rw [h] at hb; exact hb.elim
 have hfr : ∀ b, FrF φ L b → FrF φ L' b := fun b hf => ⟨hf.1, fun k hk => by
  obtain ⟨i, _, e⟩ := hb k b hk
  rw [e] at hk; exact hf.2 i hk⟩
 refine ⟨M.kept, M.fresh, fun k => ?_, fun k k' b hkk h1 h2 => ?_, fun k b h1 => ?_, fun k b h1 => ?_⟩
 ·rcases h k with ⟨i, _, e⟩ | e
  ·rw [e]; exact Rs.keep (M.holds i) (N2.mono fun b _ hf => hfr b hf) fun _ _ => rfl
  ·rw [e]; exact Rs.none_holds _ _
 ·obtain ⟨i, e1, e2⟩ := hb k b h1
  obtain ⟨j, f1, f2⟩ := hb k' b h2
  rw [e2] at h1; rw [f2] at h2
  exact M.dis i j b (fun e => hkk (hi k k' i e1 (e ▸ f1))) h1 h2
 ·obtain ⟨i, _, e2⟩ := hb k b h1
  rw [e2] at h1; exact M.ge i b h1
 ·obtain ⟨i, _, e2⟩ := hb k b h1
  rw [e2] at h1; exact M.ph i b h1
theorem s7.start (hf : ∀ b, w0.heap.size ≤ b → φ b) : s7 φ ψ w0 w0 (fun _ : ι => Rs.none) := ⟨D0.refl _ _, hf, fun _ => Rs.none_holds _ _, fun _ _ _ _ h => h.elim, fun _ _ h => h.elim, fun _ _ h => h.elim⟩
theorem s7.below (M : s7 φ ψ w0 w L) (hp : ∀ b, b < w0.heap.size → ψ b) : Below w0.heap.size w0 w := M.kept.below hp
end
end Go.Proofs.YthikdkjjdeehoaaGreat

namespace Go.Proofs.YthikdkjjdeehoaaGreat
set_option linter.unusedVariables false
set_option linter.unusedSimpArgs false
inductive b5 where
 | mk (kind value : Int) (kids : List b5)
def b5.kind : b5 → Int | ⟨k, _, _⟩ => k
def b5.value : b5 → Int | ⟨_, n, _⟩ => n
def b5.kids : b5 → List b5 | ⟨_, _, ks⟩ => ks
inductive b6 where
 | mk (kind target : Int) (index value : b5) (count : Int) (body els : List b6)
def b6.kind : b6 → Int | ⟨k, _, _, _, _, _, _⟩ => k
def b6.target : b6 → Int | ⟨_, t, _, _, _, _, _⟩ => t
def b6.index : b6 → b5 | ⟨_, _, i, _, _, _, _⟩ => i
def b6.value : b6 → b5 | ⟨_, _, _, v, _, _, _⟩ => v
def b6.count : b6 → Int | ⟨_, _, _, _, c, _, _⟩ => c
def b6.body : b6 → List b6 | ⟨_, _, _, _, _, b, _⟩ => b
def b6.els : b6 → List b6 | ⟨_, _, _, _, _, _, e⟩ => e
structure k6 where
 vars : List Int
 arrays : List Int
 body : List b6
mutual
theorem b5.ind {P : b5 → Prop} (h : ∀ k n ks, (∀ e ∈ ks, P e) → P ⟨k, n, ks⟩) : ∀ e : b5, P e
 | ⟨k, n, ks⟩ => h k n ks (b5.indL h ks)
theorem b5.indL {P : b5 → Prop} (h : ∀ k n ks, (∀ e ∈ ks, P e) → P ⟨k, n, ks⟩) : ∀ ks : List b5, ∀ e ∈ ks, P e
 | [] => fun _ hm => by cases hm
 | a :: r => fun _ hm => (bZ6.1 hm).elim (fun he => he ▸ b5.ind h a) fun hm => b5.indL h r _ hm
end
mutual
theorem b6.ind {P : b6 → Prop} (h : ∀ k t i v c b e, (∀ s ∈ b, P s) → (∀ s ∈ e, P s) → P ⟨k, t, i, v, c, b, e⟩) : ∀ s : b6, P s
 | ⟨k, t, i, v, c, b, e⟩ => h k t i v c b e (b6.indL h b) (b6.indL h e)
theorem b6.indL {P : b6 → Prop} (h : ∀ k t i v c b e, (∀ s ∈ b, P s) → (∀ s ∈ e, P s) → P ⟨k, t, i, v, c, b, e⟩) : ∀ ss : List b6, ∀ s ∈ ss, P s
 | [] => fun _ hm => by cases hm
 | a :: r => fun _ hm => (bZ6.1 hm).elim (fun he => he ▸ b6.ind h a) fun hm => b6.indL h r _ hm
end
mutual
def t2 : b5 → Nat
 | ⟨_, _, ks⟩ => s6 ks
def s6 : List b5 → Nat
 | [] => 0
 | e :: r => 1 + t2 e + s6 r
end
mutual
def J4 : b6 → Nat
 | ⟨_, _, i, v, _, b, e⟩ => t2 i + t2 v + l8 b + l8 e
def l8 : List b6 → Nat
 | [] => 0
 | s :: r => 1 + J4 s + l8 r
end
def k6.size (p : k6) : Nat := p.vars.length + p.arrays.length + l8 p.body
theorem O2 (a b : List b5) : s6 (a ++ b) = s6 a + s6 b := by
 induction a with
 | nil => simp [s6]
 | cons x r ih => simp [s6, ih]; omega
theorem B3 (a b : List b6) : l8 (a ++ b) = l8 a + l8 b := by
 induction a with
 | nil => simp [l8]
 | cons x r ih => simp [l8, ih]; omega
theorem P4 (a : List b5) : a.length ≤ s6 a := by
 induction a with
 | nil => simp
 | cons x r ih => simp only [s6, bV6]; omega
theorem D8 (a : List b6) : a.length ≤ l8 a := by
 induction a with
 | nil => simp
 | cons x r ih => simp only [l8, bV6]; omega
theorem aT1 {e : b5} {ks : List b5} (h : e ∈ ks) : t2 e < s6 ks := by
 induction ks with
 | nil => cases h
 | cons x r ih =>
  simp only [s6]
  rcases bZ6.1 h with rfl | h
  ·omega
  ·have := ih h; omega
theorem L5 {s : b6} {ss : List b6} (h : s ∈ ss) : J4 s < l8 ss := by
 induction ss with
 | nil => cases h
 | cons x r ih =>
  simp only [l8]
  rcases bZ6.1 h with rfl | h
  ·omega
  ·have := ih h; omega
mutual
def af4 : b5 → b5 → Bool
 | ⟨k, n, ks⟩, ⟨k', n', ks'⟩ => decide (k = k') && decide (n = n') && T4 ks ks'
def T4 : List b5 → List b5 → Bool
 | [], [] => true
 | e :: r, e' :: r' => af4 e e' && T4 r r'
 | _, _ => false
end
mutual
def aH7 : b6 → b6 → Bool
 | ⟨k, t, i, v, c, b, e⟩, ⟨k', t', i', v', c', b', e'⟩ => decide (k = k') && decide (t = t') && af4 i i' && af4 v v' && decide (c = c') && K5 b b' && K5 e e'
def K5 : List b6 → List b6 → Bool
 | [], [] => true
 | s :: r, s' :: r' => aH7 s s' && K5 r r'
 | _, _ => false
end
mutual
theorem al0 : ∀ (a b : b5), af4 a b = true ↔ a = b
 | ⟨k, n, ks⟩, ⟨k', n', ks'⟩ => by
  simp only [af4, bV8, decide_eq_true_eq, b5.mk.injEq, af3 ks ks', and_assoc]
theorem af3 : ∀ (a b : List b5), T4 a b = true ↔ a = b
 | [], [] => by simp [T4]
 | [], _ :: _ => by simp [T4]
 | _ :: _, [] => by simp [T4]
 | e :: r, e' :: r' => by simp only [T4, bV8, List.cons.injEq, al0 e e', af3 r r']
end
mutual
theorem aH6 : ∀ (a b : b6), aH7 a b = true ↔ a = b
 | ⟨k, t, i, v, c, b, e⟩, ⟨k', t', i', v', c', b', e'⟩ => by
  simp only [aH7, bV8, decide_eq_true_eq, b6.mk.injEq, al0 i i', al0 v v', V2 b b', V2 e e', and_assoc]
theorem V2 : ∀ (a b : List b6), K5 a b = true ↔ a = b
 | [], [] => by simp [K5]
 | [], _ :: _ => by simp [K5]
 | _ :: _, [] => by simp [K5]
 | e :: r, e' :: r' => by simp only [K5, bV8, List.cons.injEq, aH6 e e', V2 r r']
end
def k6.same (p q : k6) : Bool := decide (p.vars = q.vars) && decide (p.arrays = q.arrays) && K5 p.body q.body
theorem k6.same_eq {p q : k6} : p.same q = true ↔ p = q := by
 cases p; cases q
 simp only [k6.same, bV8, decide_eq_true_eq, k6.mk.injEq, V2, and_assoc]
theorem a94 {a b : List b5} (h : a.length ≠ b.length) : T4 a b = false := by
 cases hs : T4 a b
 ·rfl
 ·exact absurd (congrArg List.length ((af3 a b).1 hs)) h
theorem a93 {a b : List b6} (h : a.length ≠ b.length) : K5 a b = false := by
 cases hs : K5 a b
 ·rfl
 ·exact absurd (congrArg List.length ((V2 a b).1 hs)) h
mutual
def mkE : b5 → Int → b5
 | ⟨_, _, ks⟩, k => ⟨k, k + 1, ao2 ks (k + 2)⟩
def ao2 : List b5 → Int → List b5
 | [], _ => []
 | e :: r, k => mkE e k :: ao2 r (k + 2 + 2 * t2 e)
end
mutual
def mkS : b6 → Int → b6
 | ⟨_, _, i, v, _, b, e⟩, k => ⟨k, k + 1, mkE i (k + 2), mkE v (k + 4 + 2 * t2 i), k + 6 + 2 * t2 i + 2 * t2 v, al5 b (k + 7 + 2 * t2 i + 2 * t2 v), al5 e (k + 7 + 2 * t2 i + 2 * t2 v + mkN b)⟩
def al5 : List b6 → Int → List b6
 | [], _ => []
 | s :: r, k => mkS s k :: al5 r (k + a22 s)
def a22 : b6 → Int
 | ⟨_, _, i, v, _, b, e⟩ => 7 + 2 * t2 i + 2 * t2 v + mkN b + mkN e
def mkN : List b6 → Int
 | [] => 0
 | s :: r => a22 s + mkN r
end
end Go.Proofs.YthikdkjjdeehoaaGreat

namespace Go.Proofs.YthikdkjjdeehoaaGreat
set_option linter.unusedVariables false
set_option linter.unusedSimpArgs false
open Go Go.RowKit
section
mutual
def O5 (w : World) (φ : Nat → Prop) : b5 → List Value → Prop
 | ⟨k, n, ks⟩, cs => ∃ v xs, cs = [.int .i64 k, .int .i64 n, v] ∧ E9 w φ v ks.length 3 xs ∧ D4 w φ ks xs
def D4 (w : World) (φ : Nat → Prop) : List b5 → List Value → Prop
 | [], xs => xs = []
 | e :: r, xs => ∃ c ys, xs = c ++ ys ∧ O5 w φ e c ∧ D4 w φ r ys
end
def t5 (w : World) (φ : Nat → Prop) (v : Value) (ks : List b5) : Prop := ∃ xs, E9 w φ v ks.length 3 xs ∧ D4 w φ ks xs
def K8 (w : World) (φ : Nat → Prop) (v : Value) (e : b5) : Prop := ∃ kv, v = .agg #[.int .i64 e.kind, .int .i64 e.value, kv] ∧ t5 w φ kv e.kids
mutual
def N8 (w : World) (φ : Nat → Prop) : b6 → List Value → Prop
 | ⟨k, t, i, v, c, b, e⟩, cs => ∃ iv vv bv ev xb xe, cs = [.int .i64 k, .int .i64 t, .int .i64 i.kind, .int .i64 i.value, iv, .int .i64 v.kind, .int .i64 v.value, vv, .int .i64 c, bv, ev] ∧
   t5 w φ iv i.kids ∧ t5 w φ vv v.kids ∧ E9 w φ bv b.length 11 xb ∧ C8 w φ b xb ∧ E9 w φ ev e.length 11 xe ∧ C8 w φ e xe
def C8 (w : World) (φ : Nat → Prop) : List b6 → List Value → Prop
 | [], xs => xs = []
 | s :: r, xs => ∃ c ys, xs = c ++ ys ∧ N8 w φ s c ∧ C8 w φ r ys
end
def t8 (w : World) (φ : Nat → Prop) (v : Value) (ss : List b6) : Prop := ∃ xs, E9 w φ v ss.length 11 xs ∧ C8 w φ ss xs
def Q1 (w : World) (φ : Nat → Prop) (v : Value) (s : b6) : Prop :=
 ∃ iv vv bv ev, v = .agg #[.int .i64 s.kind, .int .i64 s.target, .int .i64 s.index.kind, .int .i64 s.index.value, iv, .int .i64 s.value.kind, .int .i64 s.value.value, vv, .int .i64 s.count, bv, ev] ∧
  t5 w φ iv s.index.kids ∧ t5 w φ vv s.value.kids ∧ t8 w φ bv s.body ∧ t8 w φ ev s.els
def ap5 (w : World) (φ : Nat → Prop) (v : Value) (p : k6) : Prop :=
 ∃ v1 v2 v3, v = .agg #[v1, v2, v3] ∧ E9 w φ v1 p.vars.length 1 (ints p.vars) ∧ E9 w φ v2 p.arrays.length 1 (ints p.arrays) ∧ t8 w φ v3 p.body
variable {w w' : World} {φ φ' : Nat → Prop}
mutual
theorem O5.agr (ha : N2 φ φ' w w') : ∀ (e : b5) (cs : List Value), O5 w φ e cs → O5 w' φ' e cs
 | ⟨_, _, ks⟩, _, ⟨v, xs, h1, h2, h3⟩ => ⟨v, xs, h1, E9.nice _ _ _ _ _ _ _ _ ha h2, D4.agr ha ks xs h3⟩
theorem D4.agr (ha : N2 φ φ' w w') : ∀ (ks : List b5) (xs : List Value), D4 w φ ks xs → D4 w' φ' ks xs
 | [], _, h => h
 | e :: r, _, ⟨c, ys, h1, h2, h3⟩ => ⟨c, ys, h1, O5.agr ha e c h2, D4.agr ha r ys h3⟩
end
theorem D4.nice (ks : List b5) (xs : List Value) : aj4 fun w φ => D4 w φ ks xs := fun _ _ _ _ ha h => D4.agr ha ks xs h
theorem t5.nice (v : Value) (ks : List b5) : aj4 fun w φ => t5 w φ v ks := fun _ _ _ _ ha ⟨xs, h1, h2⟩ => ⟨xs, E9.nice _ _ _ _ _ _ _ _ ha h1, D4.agr ha ks xs h2⟩
theorem K8.nice (v : Value) (e : b5) : aj4 fun w φ => K8 w φ v e := fun _ _ _ _ ha ⟨kv, h1, h2⟩ => ⟨kv, h1, t5.nice _ _ _ _ _ _ ha h2⟩
mutual
theorem N8.agr (ha : N2 φ φ' w w') : ∀ (s : b6) (cs : List Value), N8 w φ s cs → N8 w' φ' s cs
 | ⟨_, _, _, _, _, b, e⟩, _, ⟨iv, vv, bv, ev, xb, xe, h1, h2, h3, h4, h5, h6, h7⟩ =>
  ⟨iv, vv, bv, ev, xb, xe, h1, t5.nice _ _ _ _ _ _ ha h2, t5.nice _ _ _ _ _ _ ha h3, E9.nice _ _ _ _ _ _ _ _ ha h4, C8.agr ha b xb h5, E9.nice _ _ _ _ _ _ _ _ ha h6, C8.agr ha e xe h7⟩
theorem C8.agr (ha : N2 φ φ' w w') : ∀ (ss : List b6) (xs : List Value), C8 w φ ss xs → C8 w' φ' ss xs
 | [], _, h => h
 | s :: r, _, ⟨c, ys, h1, h2, h3⟩ => ⟨c, ys, h1, N8.agr ha s c h2, C8.agr ha r ys h3⟩
end
theorem C8.nice (ss : List b6) (xs : List Value) : aj4 fun w φ => C8 w φ ss xs := fun _ _ _ _ ha h => C8.agr ha ss xs h
theorem t8.nice (v : Value) (ss : List b6) : aj4 fun w φ => t8 w φ v ss := fun _ _ _ _ ha ⟨xs, h1, h2⟩ => ⟨xs, E9.nice _ _ _ _ _ _ _ _ ha h1, C8.agr ha ss xs h2⟩
theorem Q1.nice (v : Value) (s : b6) : aj4 fun w φ => Q1 w φ v s := fun _ _ _ _ ha ⟨iv, vv, bv, ev, h1, h2, h3, h4, h5⟩ =>
 ⟨iv, vv, bv, ev, h1, t5.nice _ _ _ _ _ _ ha h2, t5.nice _ _ _ _ _ _ ha h3, t8.nice _ _ _ _ _ _ ha h4, t8.nice _ _ _ _ _ _ ha h5⟩
theorem ap5.nice (v : Value) (p : k6) : aj4 fun w φ => ap5 w φ v p := fun _ _ _ _ ha ⟨v1, v2, v3, h1, h2, h3, h4⟩ =>
 ⟨v1, v2, v3, h1, E9.nice _ _ _ _ _ _ _ _ ha h2, E9.nice _ _ _ _ _ _ _ _ ha h3, t8.nice _ _ _ _ _ _ ha h4⟩
theorem O5.iff (e : b5) (cs : List Value) : O5 w φ e cs ↔ ∃ kv, cs = [.int .i64 e.kind, .int .i64 e.value, kv] ∧ t5 w φ kv e.kids := by
 cases e with
 | mk k n ks => exact ⟨fun ⟨v, xs, h1, h2, h3⟩ => ⟨v, h1, xs, h2, h3⟩, fun ⟨v, h1, xs, h2, h3⟩ => ⟨v, xs, h1, h2, h3⟩⟩
theorem N8.iff (s : b6) (cs : List Value) : N8 w φ s cs ↔ ∃ iv vv bv ev, cs = [.int .i64 s.kind, .int .i64 s.target, .int .i64 s.index.kind, .int .i64 s.index.value, iv, .int .i64 s.value.kind, .int .i64 s.value.value, vv, .int .i64 s.count, bv, ev] ∧
  t5 w φ iv s.index.kids ∧ t5 w φ vv s.value.kids ∧ t8 w φ bv s.body ∧ t8 w φ ev s.els := by
 cases s with
 | mk k t i v c b e =>
  exact ⟨fun ⟨iv, vv, bv, ev, xb, xe, h1, h2, h3, h4, h5, h6, h7⟩ => ⟨iv, vv, bv, ev, h1, h2, h3, ⟨xb, h4, h5⟩, ⟨xe, h6, h7⟩⟩,
   fun ⟨iv, vv, bv, ev, h1, h2, h3, ⟨xb, h4, h5⟩, ⟨xe, h6, h7⟩⟩ => ⟨iv, vv, bv, ev, xb, xe, h1, h2, h3, h4, h5, h6, h7⟩⟩
theorem K8.iff {v : Value} {e : b5} : K8 w φ v e ↔ ∃ cs : List Value, v = .agg cs.toArray ∧ O5 w φ e cs :=
 ⟨fun ⟨kv, h1, h2⟩ => ⟨_, h1, (O5.iff e _).2 ⟨kv, rfl, h2⟩⟩, fun ⟨cs, h1, h2⟩ => by obtain ⟨kv, rfl, h3⟩ := (O5.iff e cs).1 h2; exact ⟨kv, h1, h3⟩⟩
theorem Q1.iff {v : Value} {s : b6} : Q1 w φ v s ↔ ∃ cs : List Value, v = .agg cs.toArray ∧ N8 w φ s cs :=
 ⟨fun ⟨iv, vv, bv, ev, h1, h2⟩ => ⟨_, h1, (N8.iff s _).2 ⟨iv, vv, bv, ev, rfl, h2⟩⟩, fun ⟨cs, h1, h2⟩ => by obtain ⟨iv, vv, bv, ev, rfl, h3⟩ := (N8.iff s cs).1 h2; exact ⟨iv, vv, bv, ev, h1, h3⟩⟩
theorem D4.len : ∀ {ks : List b5} {xs : List Value}, D4 w φ ks xs → xs.length = ks.length * 3
 | [], _, h => by rw [show _ = [] from h]; rfl
 | e :: r, _, ⟨c, ys, h1, h2, h3⟩ => by
  obtain ⟨kv, rfl, _⟩ := (O5.iff e c).1 h2
  rw [h1, bV4, D4.len h3, bV6]; simp; omega
theorem C8.len : ∀ {ss : List b6} {xs : List Value}, C8 w φ ss xs → xs.length = ss.length * 11
 | [], _, h => by rw [show _ = [] from h]; rfl
 | s :: r, _, ⟨c, ys, h1, h2, h3⟩ => by
  obtain ⟨iv, vv, bv, ev, rfl, _⟩ := (N8.iff s c).1 h2
  rw [h1, bV4, C8.len h3, bV6]; simp; omega
theorem D4.at : ∀ {ks : List b5} {xs : List Value}, D4 w φ ks xs → ∀ (i : Nat) (hi : i < ks.length), ∃ kv, xs[i * 3]? = some (.int .i64 ks[i].kind) ∧ xs[i * 3 + 1]? = some (.int .i64 ks[i].value) ∧ xs[i * 3 + 2]? = some kv ∧ t5 w φ kv ks[i].kids
 | [], _, _, i, hi => by simp at hi
 | e :: r, _, ⟨c, ys, h1, h2, h3⟩, i, hi => by
  obtain ⟨kv, rfl, hk⟩ := (O5.iff e c).1 h2
  subst h1
  cases i with
  | zero => exact ⟨kv, rfl, rfl, rfl, hk⟩
  | succ i =>
   obtain ⟨kv', a, b, d, f⟩ := D4.at h3 i (by simpa using hi)
   refine ⟨kv', ?_, ?_, ?_, f⟩ <;> (rw [bY3]; simpa [Nat.add_assoc] using by assumption)
theorem C8.at : ∀ {ss : List b6} {xs : List Value}, C8 w φ ss xs → ∀ (i : Nat) (hi : i < ss.length), ∃ cs : List Value, cs.length = 11 ∧ N8 w φ ss[i] cs ∧ ∀ j, j < 11 → xs[i * 11 + j]? = cs[j]?
 | [], _, _, i, hi => by simp at hi
 | s :: r, _, ⟨c, ys, h1, h2, h3⟩, i, hi => by
  have hc : c.length = 11 := by obtain ⟨iv, vv, bv, ev, rfl, _⟩ := (N8.iff s c).1 h2; rfl
  subst h1
  cases i with
  | zero => exact ⟨c, hc, h2, fun j hj => by rw [bX7 (by omega)]; simp⟩
  | succ i =>
   obtain ⟨cs, a, b, d⟩ := C8.at h3 i (by simpa using hi)
   refine ⟨cs, a, b, fun j hj => ?_⟩
   rw [bZ0 (by rw [hc, bY3]; omega), ← d j hj]
   congr 1
   rw [hc, bY3]; omega
theorem D4.append : ∀ {ks : List b5} {xs : List Value} {ls : List b5} {ys : List Value}, D4 w φ ks xs → D4 w φ ls ys → D4 w φ (ks ++ ls) (xs ++ ys)
 | [], _, _, _, h, k => by rw [show _ = [] from h]; exact k
 | e :: r, _, _, _, ⟨c, zs, h1, h2, h3⟩, k => ⟨c, zs ++ _, by rw [h1, bZ1], h2, D4.append h3 k⟩
theorem D4.one {e : b5} {c : List Value} (h : O5 w φ e c) : D4 w φ [e] c := ⟨c, [], by simp, h, rfl⟩
theorem C8.append : ∀ {ks : List b6} {xs : List Value} {ls : List b6} {ys : List Value}, C8 w φ ks xs → C8 w φ ls ys → C8 w φ (ks ++ ls) (xs ++ ys)
 | [], _, _, _, h, k => by rw [show _ = [] from h]; exact k
 | e :: r, _, _, _, ⟨c, zs, h1, h2, h3⟩, k => ⟨c, zs ++ _, by rw [h1, bZ1], h2, C8.append h3 k⟩
theorem C8.one {s : b6} {c : List Value} (h : N8 w φ s c) : C8 w φ [s] c := ⟨c, [], by simp, h, rfl⟩
theorem t5.open {v : Value} {ks : List b5} (h : t5 w φ v ks) : ∃ a cap, v = .slice a ks.length cap ∧ ks.length ≤ cap ∧ ks.length ≤ 9223372036854775807 ∧ cap ≤ 9223372036854775807 ∧
  ∀ i (hi : i < ks.length), ∃ b off kv, a = some ⟨b, off, none⟩ ∧ b < w.heap.size ∧ φ b ∧ w.cell? ⟨b, off + i * 3, none⟩ = some (.int .i64 ks[i].kind) ∧ w.cell? ⟨b, off + i * 3 + 1, none⟩ = some (.int .i64 ks[i].value) ∧ w.cell? ⟨b, off + i * 3 + 2, none⟩ = some kv ∧ t5 w φ kv ks[i].kids := by
 obtain ⟨xs, ⟨hl, a, cap, rfl, h1, h2, h3⟩, hx⟩ := h
 unfold maxLen at h2
 refine ⟨a, cap, rfl, h1, by omega, by omega, fun i hi => ?_⟩
 obtain ⟨b, off, rfl, hb, hf, hc⟩ := h3 (by omega)
 obtain ⟨kv, e0, e1, e2, hk⟩ := hx.at i hi
 exact ⟨b, off, kv, rfl, hb, hf, hc _ _ e0, hc _ _ e1, hc _ _ e2, hk⟩
theorem t8.open {v : Value} {ss : List b6} (h : t8 w φ v ss) : ∃ a cap, v = .slice a ss.length cap ∧ ss.length ≤ cap ∧ ss.length ≤ 9223372036854775807 ∧ cap ≤ 9223372036854775807 ∧
  ∀ i (hi : i < ss.length), ∃ b off iv vv bv ev, a = some ⟨b, off, none⟩ ∧ b < w.heap.size ∧ φ b ∧
   (w.cell? ⟨b, off + i * 11, none⟩ = some (.int .i64 ss[i].kind) ∧ w.cell? ⟨b, off + i * 11 + 1, none⟩ = some (.int .i64 ss[i].target) ∧ w.cell? ⟨b, off + i * 11 + 2, none⟩ = some (.int .i64 ss[i].index.kind) ∧ w.cell? ⟨b, off + i * 11 + 3, none⟩ = some (.int .i64 ss[i].index.value) ∧ w.cell? ⟨b, off + i * 11 + 4, none⟩ = some iv ∧
    w.cell? ⟨b, off + i * 11 + 5, none⟩ = some (.int .i64 ss[i].value.kind) ∧ w.cell? ⟨b, off + i * 11 + 6, none⟩ = some (.int .i64 ss[i].value.value) ∧ w.cell? ⟨b, off + i * 11 + 7, none⟩ = some vv ∧ w.cell? ⟨b, off + i * 11 + 8, none⟩ = some (.int .i64 ss[i].count) ∧ w.cell? ⟨b, off + i * 11 + 9, none⟩ = some bv ∧ w.cell? ⟨b, off + i * 11 + 10, none⟩ = some ev) ∧
   t5 w φ iv ss[i].index.kids ∧ t5 w φ vv ss[i].value.kids ∧ t8 w φ bv ss[i].body ∧ t8 w φ ev ss[i].els := by
 obtain ⟨xs, ⟨hl, a, cap, rfl, h1, h2, h3⟩, hx⟩ := h
 unfold maxLen at h2
 refine ⟨a, cap, rfl, h1, by omega, by omega, fun i hi => ?_⟩
 obtain ⟨b, off, rfl, hb, hf, hc⟩ := h3 (by omega)
 obtain ⟨cs, hl2, hs, hj⟩ := hx.at i hi
 obtain ⟨iv, vv, bv, ev, rfl, k1, k2, k3, k4⟩ := (N8.iff _ _).1 hs
 refine ⟨b, off, iv, vv, bv, ev, rfl, hb, hf, ⟨?_, ?_, ?_, ?_, ?_, ?_, ?_, ?_, ?_, ?_, ?_⟩, k1, k2, k3, k4⟩
 ·have := hc (i * 11 + 0) _ ((hj 0 (by omega)).trans rfl); simpa using this
 ·exact hc (i * 11 + 1) _ ((hj 1 (by omega)).trans rfl)
 ·exact hc (i * 11 + 2) _ ((hj 2 (by omega)).trans rfl)
 ·exact hc (i * 11 + 3) _ ((hj 3 (by omega)).trans rfl)
 ·exact hc (i * 11 + 4) _ ((hj 4 (by omega)).trans rfl)
 ·exact hc (i * 11 + 5) _ ((hj 5 (by omega)).trans rfl)
 ·exact hc (i * 11 + 6) _ ((hj 6 (by omega)).trans rfl)
 ·exact hc (i * 11 + 7) _ ((hj 7 (by omega)).trans rfl)
 ·exact hc (i * 11 + 8) _ ((hj 8 (by omega)).trans rfl)
 ·exact hc (i * 11 + 9) _ ((hj 9 (by omega)).trans rfl)
 ·exact hc (i * 11 + 10) _ ((hj 10 (by omega)).trans rfl)
theorem t5.nil (w : World) (φ : Nat → Prop) : t5 w φ (.slice none 0 0) [] := ⟨[], E9.nil _ _ _, rfl⟩
theorem t8.nil (w : World) (φ : Nat → Prop) : t8 w φ (.slice none 0 0) [] := ⟨[], E9.nil _ _ _, rfl⟩
end
inductive D where
 | ints (l : List Int)
 | bools (l : List Bool)
 | bytes (l : List UInt8)
 | strs (l : List ByteArray)
 | instrs (l : List l7)
 | events (l : List (Int × Int))
 | rows (l : List (List Int))
 | brows (l : List (List Bool))
 | exprs (l : List b5)
 | stmts (l : List b6)
inductive X where
 | v (x : Value)
 | sl (d : D)
def D.len : D → Nat
 | .ints l => l.length
 | .bools l => l.length
 | .bytes l => l.length
 | .strs l => l.length
 | .instrs l => l.length
 | .events l => l.length
 | .rows l => l.length
 | .brows l => l.length
 | .exprs l => l.length
 | .stmts l => l.length
def D.sz : D → Nat
 | .instrs _ => 5
 | .events _ => 2
 | .exprs _ => 3
 | .stmts _ => 11
 | _ => 1
instance : Inhabited b5 := ⟨⟨0, 0, []⟩⟩
instance : Inhabited b6 := ⟨⟨0, 0, bV3, bV3, 0, [], []⟩⟩
instance : Inhabited l7 := ⟨⟨0, 0, 0, 0, 0⟩⟩
def aK5 (e : b5) : List X := [.v (.int .i64 e.kind), .v (.int .i64 e.value), .sl (.exprs e.kids)]
def aH1 (s : b6) : List X := [.v (.int .i64 s.kind), .v (.int .i64 s.target), .v (.int .i64 s.index.kind), .v (.int .i64 s.index.value), .sl (.exprs s.index.kids), .v (.int .i64 s.value.kind), .v (.int .i64 s.value.value), .sl (.exprs s.value.kids), .v (.int .i64 s.count), .sl (.stmts s.body), .sl (.stmts s.els)]
def bb4 (x : l7) : List X := [.v (.int .i64 x.op), .v (.int .i64 x.a), .v (.int .i64 x.b), .v (.int .i64 x.c), .v (.int .i64 x.d)]
def as3 (x : Int × Int) : List X := [.v (.int .i64 x.1), .v (.int .i64 x.2)]
def D.elem : D → Nat → List X
 | .ints l, i => [.v (.int .i64 (l.getD i 0))]
 | .bools l, i => [.v (.bool (l.getD i false))]
 | .bytes l, i => [.v (.int .u8 ((l.getD i 0).toNat : Int))]
 | .strs l, i => [.v (.string (l.getD i ByteArray.empty))]
 | .instrs l, i => bb4 (l.getD i bV3)
 | .events l, i => as3 (l.getD i (0, 0))
 | .rows l, i => [.sl (.ints (l.getD i []))]
 | .brows l, i => [.sl (.bools (l.getD i []))]
 | .exprs l, i => aK5 (l.getD i bV3)
 | .stmts l, i => aH1 (l.getD i bV3)
theorem D.elem_len (d : D) (i : Nat) : (d.elem i).length = d.sz := by cases d <;> rfl
theorem A1 {α : Type} {l : List α} {i : Nat} {d : α} (h : i < l.length) : l.getD i d = l[i] := by simp [h]
def RD (w : World) (φ : Nat → Prop) : D → Value → Prop
 | .ints l, v => E9 w φ v l.length 1 (ints l)
 | .bools l, v => E9 w φ v l.length 1 (l.map Value.bool)
 | .bytes l, v => E9 w φ v l.length 1 (l.map fun b => Value.int .u8 (b.toNat : Int))
 | .strs l, v => E9 w φ v l.length 1 (l.map Value.string)
 | .instrs l, v => E9 w φ v l.length 5 (ints (V4 l))
 | .events l, v => E9 w φ v l.length 2 (l.flatMap fun x => [Value.int .i64 x.1, .int .i64 x.2])
 | .rows l, v => ∃ vs : List Value, E9 w φ v l.length 1 vs ∧ ∀ i (_ : i < l.length), ∃ u, vs[i]? = some u ∧ E9 w φ u l[i].length 1 (ints l[i])
 | .brows l, v => ∃ vs : List Value, E9 w φ v l.length 1 vs ∧ ∀ i (_ : i < l.length), ∃ u, vs[i]? = some u ∧ E9 w φ u l[i].length 1 (l[i].map Value.bool)
 | .exprs l, v => t5 w φ v l
 | .stmts l, v => t8 w φ v l
def XH (w : World) (φ : Nat → Prop) : X → Value → Prop
 | .v x, u => u = x
 | .sl d, u => RD w φ d u
theorem RD.nice (d : D) (v : Value) : aj4 fun w φ => RD w φ d v := by
 intro w w' φ φ' ha h
 cases d with
 | rows l => obtain ⟨vs, h1, h2⟩ := h; exact ⟨vs, E9.nice _ _ _ _ _ _ _ _ ha h1, fun i hi => let ⟨u, a, b⟩ := h2 i hi; ⟨u, a, E9.nice _ _ _ _ _ _ _ _ ha b⟩⟩
 | brows l => obtain ⟨vs, h1, h2⟩ := h; exact ⟨vs, E9.nice _ _ _ _ _ _ _ _ ha h1, fun i hi => let ⟨u, a, b⟩ := h2 i hi; ⟨u, a, E9.nice _ _ _ _ _ _ _ _ ha b⟩⟩
 | exprs l => exact t5.nice v l _ _ _ _ ha h
 | stmts l => exact t8.nice v l _ _ _ _ ha h
 | _ => exact E9.nice _ _ _ _ _ _ _ _ ha h
theorem XH.nice (x : X) (v : Value) : aj4 fun w φ => XH w φ x v := by
 intro w w' φ φ' ha h
 cases x with
 | v x => exact h
 | sl d => exact RD.nice d v _ _ _ _ ha h
def RW (w : World) (φ : Nat → Prop) (d : D) (xs : List Value) : Prop :=
 ∀ i, i < d.len → ∀ j x, (d.elem i)[j]? = some x → ∃ u, xs[i * d.sz + j]? = some u ∧ XH w φ x u
theorem RW.nice (d : D) (xs : List Value) : aj4 fun w φ => RW w φ d xs := fun _ _ _ _ ha h i hi j x hx => let ⟨u, a, b⟩ := h i hi j x hx; ⟨u, a, XH.nice x u _ _ _ _ ha b⟩
theorem aB8 {α : Type} (l : List α) (f : α → Value) (dflt : α) {i j : Nat} {x : X} (hi : i < l.length) (hx : ([X.v (f (l.getD i dflt))] : List X)[j]? = some x) : ∃ y, x = .v y ∧ (l.map f)[i * 1 + j]? = some y := by
 cases j with
 | zero => simp at hx; subst hx; exact ⟨_, rfl, by simp [hi]⟩
 | succ j => simp at hx
theorem bw2 (l : List l7) {i j : Nat} {x : X} (hi : i < l.length) (hx : (bb4 (l.getD i bV3))[j]? = some x) : ∃ y, x = .v y ∧ (ints (V4 l))[i * 5 + j]? = some y := by
 obtain ⟨g0, g1, g2, g3, g4⟩ := bv6 l i hi
 have e : l.getD i bV3 = l[i] := by simp [hi]
 rw [e] at hx
 unfold bb4 at hx
 match j, hx with
 | 0, hx => simp at hx; subst hx; exact ⟨_, rfl, by simp [ints, g0]⟩
 | 1, hx => simp at hx; subst hx; exact ⟨_, rfl, by simp [ints, g1]⟩
 | 2, hx => simp at hx; subst hx; exact ⟨_, rfl, by simp [ints, g2]⟩
 | 3, hx => simp at hx; subst hx; exact ⟨_, rfl, by simp [ints, g3]⟩
 | 4, hx => simp at hx; subst hx; exact ⟨_, rfl, by simp [ints, g4]⟩
 | j + 5, hx => simp at hx
theorem bH7 (l : List (Int × Int)) : ∀ {i j : Nat} {x : X}, i < l.length → (as3 (l.getD i (0, 0)))[j]? = some x → ∃ y, x = .v y ∧ (l.flatMap fun x => [Value.int .i64 x.1, .int .i64 x.2])[i * 2 + j]? = some y := by
 induction l with
 | nil => intro i j x hi; simp at hi
 | cons a r ih =>
  intro i j x hi hx
  cases i with
  | zero =>
   unfold as3 at hx
   match j, hx with
   | 0, hx => simp at hx; subst hx; exact ⟨_, rfl, by simp⟩
   | 1, hx => simp at hx; subst hx; exact ⟨_, rfl, by simp⟩
   | j + 2, hx => simp at hx
  | succ i =>
   obtain ⟨y, h1, h2⟩ := ih (i := i) (j := j) (x := x) (by simpa using hi) (by simpa using hx)
   refine ⟨y, h1, ?_⟩
   rw [show (i + 1) * 2 + j = i * 2 + j + 2 by omega]
   simpa using h2
theorem E9.cellAt {w : World} {φ : Nat → Prop} {v : Value} {n sz : Nat} {xs : List Value} (h : E9 w φ v n sz xs) : ∃ a cap, v = .slice a n cap ∧ n ≤ cap ∧ cap ≤ maxLen ∧
  ∀ i, i < n → ∃ b off, a = some ⟨b, off, none⟩ ∧ b < w.heap.size ∧ φ b ∧ ∀ j u, xs[i * sz + j]? = some u → w.cell? ⟨b, off + (i * sz + j), none⟩ = some u := by
 obtain ⟨_, a, cap, rfl, h1, h2, h3⟩ := h
 refine ⟨a, cap, rfl, h1, h2, fun i hi => ?_⟩
 obtain ⟨b, off, rfl, hb, hf, hc⟩ := h3 (by omega)
 exact ⟨b, off, rfl, hb, hf, fun j u hj => hc _ u hj⟩
theorem bw3 {w : World} {φ : Nat → Prop} {e : b5} {c : List Value} (h : O5 w φ e c) {j : Nat} {x : X} (hx : (aK5 e)[j]? = some x) : ∃ u, c[j]? = some u ∧ XH w φ x u := by
 obtain ⟨kv, rfl, hk⟩ := (O5.iff e c).1 h
 unfold aK5 at hx
 match j, hx with
 | 0, hx => simp at hx; subst hx; exact ⟨_, rfl, rfl⟩
 | 1, hx => simp at hx; subst hx; exact ⟨_, rfl, rfl⟩
 | 2, hx => simp at hx; subst hx; exact ⟨_, rfl, hk⟩
 | j + 3, hx => simp at hx
theorem bp6 {w : World} {φ : Nat → Prop} {s : b6} {c : List Value} (h : N8 w φ s c) {j : Nat} {x : X} (hx : (aH1 s)[j]? = some x) : ∃ u, c[j]? = some u ∧ XH w φ x u := by
 obtain ⟨iv, vv, bv, ev, rfl, k1, k2, k3, k4⟩ := (N8.iff s c).1 h
 unfold aH1 at hx
 match j, hx with
 | 0, hx => simp at hx; subst hx; exact ⟨_, rfl, rfl⟩
 | 1, hx => simp at hx; subst hx; exact ⟨_, rfl, rfl⟩
 | 2, hx => simp at hx; subst hx; exact ⟨_, rfl, rfl⟩
 | 3, hx => simp at hx; subst hx; exact ⟨_, rfl, rfl⟩
 | 4, hx => simp at hx; subst hx; exact ⟨_, rfl, k1⟩
 | 5, hx => simp at hx; subst hx; exact ⟨_, rfl, rfl⟩
 | 6, hx => simp at hx; subst hx; exact ⟨_, rfl, rfl⟩
 | 7, hx => simp at hx; subst hx; exact ⟨_, rfl, k2⟩
 | 8, hx => simp at hx; subst hx; exact ⟨_, rfl, rfl⟩
 | 9, hx => simp at hx; subst hx; exact ⟨_, rfl, k3⟩
 | 10, hx => simp at hx; subst hx; exact ⟨_, rfl, k4⟩
 | j + 11, hx => simp at hx
theorem RW.exprs {w : World} {φ : Nat → Prop} {ks : List b5} {xs : List Value} (h : D4 w φ ks xs) : RW w φ (.exprs ks) xs := by
 intro i hi j x hx
 have hj : j < 3 := by
  have := (bW9.1 hx).1
  rw [D.elem_len] at this; exact this
 have hi' : i < ks.length := hi
 obtain ⟨kv, e0, e1, e2, hk⟩ := h.at i hi'
 have hx' : (aK5 ks[i])[j]? = some x := by
  rw [← A1 (d := bV3) hi']; exact hx
 obtain ⟨u, hu, hh⟩ := bw3 ((O5.iff ks[i] [.int .i64 ks[i].kind, .int .i64 ks[i].value, kv]).2 ⟨kv, rfl, hk⟩) hx'
 refine ⟨u, ?_, hh⟩
 rw [← hu]
 show xs[i * 3 + j]? = _
 match j, hj with
 | 0, _ => simpa using e0
 | 1, _ => simpa using e1
 | 2, _ => simpa using e2
theorem RW.stmts {w : World} {φ : Nat → Prop} {ks : List b6} {xs : List Value} (h : C8 w φ ks xs) : RW w φ (.stmts ks) xs := by
 intro i hi j x hx
 have hj : j < 11 := by
  have := (bW9.1 hx).1
  rw [D.elem_len] at this; exact this
 have hi' : i < ks.length := hi
 obtain ⟨cs, hl, hs, hc⟩ := h.at i hi'
 have hx' : (aH1 ks[i])[j]? = some x := by
  rw [← A1 (d := bV3) hi']; exact hx
 obtain ⟨u, hu, hh⟩ := bp6 hs hx'
 exact ⟨u, (hc j hj).trans hu, hh⟩
theorem RD.split {w : World} {φ : Nat → Prop} {d : D} {v : Value} (h : RD w φ d v) : ∃ xs, E9 w φ v d.len d.sz xs ∧ RW w φ d xs := by
 cases d with
 | ints l => exact ⟨_, h, fun i hi j x hx => let ⟨y, e, h1⟩ := aB8 l (Value.int .i64) 0 hi hx; ⟨y, h1, by subst e; rfl⟩⟩
 | bools l => exact ⟨_, h, fun i hi j x hx => let ⟨y, e, h1⟩ := aB8 l Value.bool false hi hx; ⟨y, h1, by subst e; rfl⟩⟩
 | bytes l => exact ⟨_, h, fun i hi j x hx => let ⟨y, e, h1⟩ := aB8 l (fun b => Value.int .u8 (b.toNat : Int)) 0 hi hx; ⟨y, h1, by subst e; rfl⟩⟩
 | strs l => exact ⟨_, h, fun i hi j x hx => let ⟨y, e, h1⟩ := aB8 l Value.string ByteArray.empty hi hx; ⟨y, h1, by subst e; rfl⟩⟩
 | instrs l => exact ⟨_, h, fun i hi j x hx => let ⟨y, e, h1⟩ := bw2 l hi hx; ⟨y, h1, by subst e; rfl⟩⟩
 | events l => exact ⟨_, h, fun i hi j x hx => let ⟨y, e, h1⟩ := bH7 l hi hx; ⟨y, h1, by subst e; rfl⟩⟩
 | rows l =>
  obtain ⟨vs, h1, h2⟩ := h
  refine ⟨vs, h1, fun i hi j x hx => ?_⟩
  cases j with
  | succ j => simp [D.elem] at hx
  | zero =>
   obtain ⟨u, e, h3⟩ := h2 i hi
   simp only [D.elem, List.getElem?_cons_zero, Option.some.injEq] at hx
   subst hx
   have hi' : i < l.length := hi
   exact ⟨u, by simpa [D.sz] using e, by show E9 _ _ _ _ _ _; rw [A1 hi']; exact h3⟩
 | brows l =>
  obtain ⟨vs, h1, h2⟩ := h
  refine ⟨vs, h1, fun i hi j x hx => ?_⟩
  cases j with
  | succ j => simp [D.elem] at hx
  | zero =>
   obtain ⟨u, e, h3⟩ := h2 i hi
   simp only [D.elem, List.getElem?_cons_zero, Option.some.injEq] at hx
   subst hx
   have hi' : i < l.length := hi
   exact ⟨u, by simpa [D.sz] using e, by show E9 _ _ _ _ _ _; rw [A1 hi']; exact h3⟩
 | exprs l => obtain ⟨xs, h1, h2⟩ := h; exact ⟨xs, h1, RW.exprs h2⟩
 | stmts l => obtain ⟨xs, h1, h2⟩ := h; exact ⟨xs, h1, RW.stmts h2⟩
theorem RD.open {w : World} {φ : Nat → Prop} {d : D} {v : Value} (h : RD w φ d v) : ∃ a cap, v = .slice a d.len cap ∧ d.len ≤ cap ∧ cap ≤ maxLen ∧
  ∀ i, i < d.len → ∃ b off, a = some ⟨b, off, none⟩ ∧ b < w.heap.size ∧ φ b ∧ ∀ j x, (d.elem i)[j]? = some x → ∃ u, w.cell? ⟨b, off + (i * d.sz + j), none⟩ = some u ∧ XH w φ x u := by
 obtain ⟨xs, h1, h2⟩ := h.split
 obtain ⟨a, cap, rfl, k1, k2, k3⟩ := h1.cellAt
 refine ⟨a, cap, rfl, k1, k2, fun i hi => ?_⟩
 obtain ⟨b, off, e, hb, hf, hc⟩ := k3 i hi
 exact ⟨b, off, e, hb, hf, fun j x hx => let ⟨u, hu, hh⟩ := h2 i hi j x hx; ⟨u, hc j u hu, hh⟩⟩
theorem bJ7 {xs ys : List Value} (hl : xs.length = ys.length) (h : ∀ i, i < ys.length → xs[i]? = ys[i]?) : xs = ys := by
 apply List.ext_getElem?
 intro i
 rcases bY6 i ys.length with hi | hi
 ·exact h i hi
 ·rw [bY0 (by omega), bY0 hi]
theorem RW.drop {w : World} {φ : Nat → Prop} {a : b5} {r : List b5} {xs : List Value} (h : RW w φ (.exprs (a :: r)) xs) : RW w φ (.exprs r) (xs.drop 3) := by
 intro i hi j x hx
 have hi' : i < r.length := hi
 obtain ⟨u, h1, h2⟩ := h (i + 1) (by show i + 1 < (a :: r).length; simp; exact hi') j x (by simpa [D.elem] using hx)
 refine ⟨u, ?_, h2⟩
 rw [List.getElem?_drop, ← h1]
 congr 1
 simp only [D.sz]; omega
theorem RW.dropS {w : World} {φ : Nat → Prop} {a : b6} {r : List b6} {xs : List Value} (h : RW w φ (.stmts (a :: r)) xs) : RW w φ (.stmts r) (xs.drop 11) := by
 intro i hi j x hx
 have hi' : i < r.length := hi
 obtain ⟨u, h1, h2⟩ := h (i + 1) (by show i + 1 < (a :: r).length; simp; exact hi') j x (by simpa [D.elem] using hx)
 refine ⟨u, ?_, h2⟩
 rw [List.getElem?_drop, ← h1]
 congr 1
 simp only [D.sz]; omega
theorem bO1 {xs : List Value} {u0 u1 u2 : Value} (h0 : xs[0]? = some u0) (h1 : xs[1]? = some u1) (h2 : xs[2]? = some u2) : xs = [u0, u1, u2] ++ xs.drop 3 := by
 match xs, h0, h1, h2 with
 | a :: b :: c :: r, h0, h1, h2 => simp at h0 h1 h2; simp [h0, h1, h2]
theorem bI4 {xs : List Value} {u0 u1 u2 u3 u4 u5 u6 u7 u8 u9 u10 : Value} (h0 : xs[0]? = some u0) (h1 : xs[1]? = some u1) (h2 : xs[2]? = some u2) (h3 : xs[3]? = some u3) (h4 : xs[4]? = some u4) (h5 : xs[5]? = some u5) (h6 : xs[6]? = some u6) (h7 : xs[7]? = some u7) (h8 : xs[8]? = some u8) (h9 : xs[9]? = some u9) (h10 : xs[10]? = some u10) : xs = [u0, u1, u2, u3, u4, u5, u6, u7, u8, u9, u10] ++ xs.drop 11 := by
 match xs, h0, h1, h2, h3, h4, h5, h6, h7, h8, h9, h10 with
 | a0 :: a1 :: a2 :: a3 :: a4 :: a5 :: a6 :: a7 :: a8 :: a9 :: a10 :: r, h0, h1, h2, h3, h4, h5, h6, h7, h8, h9, h10 =>
  simp at h0 h1 h2 h3 h4 h5 h6 h7 h8 h9 h10
  simp [h0, h1, h2, h3, h4, h5, h6, h7, h8, h9, h10]
theorem D4.of {w : World} {φ : Nat → Prop} : ∀ {ks : List b5} {xs : List Value}, xs.length = ks.length * 3 → RW w φ (.exprs ks) xs → D4 w φ ks xs
 | [], xs, hl, _ => by simp at hl; exact hl
 | a :: r, xs, hl, h => by
  have hp : 0 < (D.exprs (a :: r)).len := by show 0 < (a :: r).length; simp
  obtain ⟨u0, g0, rfl⟩ := h 0 hp 0 (.v (.int .i64 a.kind)) rfl
  obtain ⟨u1, g1, rfl⟩ := h 0 hp 1 (.v (.int .i64 a.value)) rfl
  obtain ⟨u2, g2, hk⟩ := h 0 hp 2 (.sl (.exprs a.kids)) rfl
  refine ⟨_, xs.drop 3, bO1 (by simpa using g0) (by simpa using g1) (by simpa using g2), (O5.iff a _).2 ⟨u2, rfl, hk⟩, D4.of (by simp at hl ⊢; omega) h.drop⟩
theorem C8.of {w : World} {φ : Nat → Prop} : ∀ {ks : List b6} {xs : List Value}, xs.length = ks.length * 11 → RW w φ (.stmts ks) xs → C8 w φ ks xs
 | [], xs, hl, _ => by simp at hl; exact hl
 | a :: r, xs, hl, h => by
  have hp : 0 < (D.stmts (a :: r)).len := by show 0 < (a :: r).length; simp
  obtain ⟨u0, g0, rfl⟩ := h 0 hp 0 (.v (.int .i64 a.kind)) rfl
  obtain ⟨u1, g1, rfl⟩ := h 0 hp 1 (.v (.int .i64 a.target)) rfl
  obtain ⟨u2, g2, rfl⟩ := h 0 hp 2 (.v (.int .i64 a.index.kind)) rfl
  obtain ⟨u3, g3, rfl⟩ := h 0 hp 3 (.v (.int .i64 a.index.value)) rfl
  obtain ⟨u4, g4, k4⟩ := h 0 hp 4 (.sl (.exprs a.index.kids)) rfl
  obtain ⟨u5, g5, rfl⟩ := h 0 hp 5 (.v (.int .i64 a.value.kind)) rfl
  obtain ⟨u6, g6, rfl⟩ := h 0 hp 6 (.v (.int .i64 a.value.value)) rfl
  obtain ⟨u7, g7, k7⟩ := h 0 hp 7 (.sl (.exprs a.value.kids)) rfl
  obtain ⟨u8, g8, rfl⟩ := h 0 hp 8 (.v (.int .i64 a.count)) rfl
  obtain ⟨u9, g9, k9⟩ := h 0 hp 9 (.sl (.stmts a.body)) rfl
  obtain ⟨u10, g10, k10⟩ := h 0 hp 10 (.sl (.stmts a.els)) rfl
  refine ⟨_, xs.drop 11, bI4 (by simpa using g0) (by simpa using g1) (by simpa using g2) (by simpa using g3) (by simpa using g4) (by simpa using g5) (by simpa using g6) (by simpa using g7) (by simpa using g8) (by simpa using g9) (by simpa using g10), (N8.iff a _).2 ⟨u4, u7, u9, u10, rfl, k4, k7, k9, k10⟩, C8.of (by simp at hl ⊢; omega) h.dropS⟩
theorem an4 {w : World} {φ : Nat → Prop} {d : D} {xs ys : List Value} (hl : xs.length = d.len * d.sz) (hy : ys.length = d.len * d.sz) (h : RW w φ d xs)
  (hf : ∀ i j x, i < d.len → (d.elem i)[j]? = some x → ∃ y, x = .v y ∧ ys[i * d.sz + j]? = some y) : xs = ys := by
 refine bJ7 (hl.trans hy.symm) fun p hp => ?_
 have hs : 0 < d.sz := by cases d <;> simp [D.sz]
 have hi : p / d.sz < d.len := by rw [hy] at hp; exact Nat.div_lt_of_lt_mul (by rw [Nat.mul_comm]; exact hp)
 have hj : p % d.sz < (d.elem (p / d.sz)).length := by rw [D.elem_len]; exact Nat.mod_lt _ hs
 obtain ⟨y, h1, h2⟩ := hf _ _ _ hi (bW0 hj)
 obtain ⟨u, h3, h4⟩ := h _ hi _ _ (bW0 hj)
 rw [h1] at h4
 have e : p / d.sz * d.sz + p % d.sz = p := by rw [Nat.mul_comm]; exact Nat.div_add_mod p d.sz
 rw [e] at h2 h3
 rw [h3, h2]
 exact congrArg some h4
theorem bc0 (l : List (Int × Int)) : (l.flatMap fun x => [Value.int .i64 x.1, .int .i64 x.2]).length = l.length * 2 := by
 induction l with
 | nil => rfl
 | cons a r ih => rw [List.flatMap_cons, bV4, ih]; simp; omega
theorem RD.make {w : World} {φ : Nat → Prop} {d : D} {v : Value} {xs : List Value} (hr : E9 w φ v d.len d.sz xs) (h : RW w φ d xs) : RD w φ d v := by
 have hl := hr.1
 cases d with
 | ints l => rw [an4 hl (by simp [D.len, D.sz, ints]) h fun i j x hi hx => aB8 l (Value.int .i64) 0 hi hx] at hr; exact hr
 | bools l => rw [an4 hl (by simp [D.len, D.sz]) h fun i j x hi hx => aB8 l Value.bool false hi hx] at hr; exact hr
 | bytes l => rw [an4 hl (by simp [D.len, D.sz]) h fun i j x hi hx => aB8 l (fun b => Value.int .u8 (b.toNat : Int)) 0 hi hx] at hr; exact hr
 | strs l => rw [an4 hl (by simp [D.len, D.sz]) h fun i j x hi hx => aB8 l Value.string ByteArray.empty hi hx] at hr; exact hr
 | instrs l => rw [an4 hl (by simp [D.len, D.sz, ints, bv5]) h fun i j x hi hx => bw2 l hi hx] at hr; exact hr
 | events l => rw [an4 hl (bc0 l) h fun i j x hi hx => bH7 l hi hx] at hr; exact hr
 | rows l =>
  refine ⟨xs, hr, fun i hi => ?_⟩
  obtain ⟨u, h1, h2⟩ := h i hi 0 _ rfl
  exact ⟨u, by simpa [D.sz] using h1, by have h3 : E9 _ _ _ _ _ _ := h2; rw [A1 hi] at h3; exact h3⟩
 | brows l =>
  refine ⟨xs, hr, fun i hi => ?_⟩
  obtain ⟨u, h1, h2⟩ := h i hi 0 _ rfl
  exact ⟨u, by simpa [D.sz] using h1, by have h3 : E9 _ _ _ _ _ _ := h2; rw [A1 hi] at h3; exact h3⟩
 | exprs l => exact ⟨xs, hr, D4.of hl h⟩
 | stmts l => exact ⟨xs, hr, C8.of hl h⟩
section
mutual
def G5 (w : World) : b5 → (Nat → Prop) → List Value → Prop
 | ⟨k, n, ks⟩, S, cs => ∃ (v : Value) (xs : List Value) (S' : Nat → Prop), cs = [.int .i64 k, .int .i64 n, v] ∧ w.ownsRow 0 104 3 v ks.length xs ∧ (∀ g, v.ownBlock = some g → S g ∧ ¬ S' g) ∧ (∀ b, S' b → S b) ∧ t9 w ks S' xs
def t9 (w : World) : List b5 → (Nat → Prop) → List Value → Prop
 | [], _, xs => xs = []
 | e :: r, S, xs => ∃ (c ys : List Value) (S1 S2 : Nat → Prop), xs = c ++ ys ∧ (∀ b, S1 b → S b ∧ ¬ S2 b) ∧ (∀ b, S2 b → S b) ∧ G5 w e S1 c ∧ t9 w r S2 ys
end
def B8 (w : World) (v : Value) (ks : List b5) (S : Nat → Prop) : Prop :=
 ∃ (xs : List Value) (S' : Nat → Prop), w.ownsRow 0 104 3 v ks.length xs ∧ (∀ g, v.ownBlock = some g → S g ∧ ¬ S' g) ∧ (∀ b, S' b → S b) ∧ t9 w ks S' xs
mutual
def G3 (w : World) : b6 → (Nat → Prop) → List Value → Prop
 | ⟨k, t, i, v, c, b, e⟩, S, cs => ∃ (iv vv bv ev : Value) (xb xe : List Value) (Si Sv Sb Se Sb' Se' : Nat → Prop), cs = [.int .i64 k, .int .i64 t, .int .i64 i.kind, .int .i64 i.value, iv, .int .i64 v.kind, .int .i64 v.value, vv, .int .i64 c, bv, ev] ∧
   ((∀ b, Si b → S b ∧ ¬ Sv b ∧ ¬ Sb b ∧ ¬ Se b) ∧ (∀ b, Sv b → S b ∧ ¬ Sb b ∧ ¬ Se b) ∧ (∀ b, Sb b → S b ∧ ¬ Se b) ∧ (∀ b, Se b → S b)) ∧ B8 w iv i.kids Si ∧ B8 w vv v.kids Sv ∧
   (w.ownsRow 0 106 11 bv b.length xb ∧ (∀ g, bv.ownBlock = some g → Sb g ∧ ¬ Sb' g) ∧ (∀ b, Sb' b → Sb b) ∧ t7 w b Sb' xb) ∧
   (w.ownsRow 0 106 11 ev e.length xe ∧ (∀ g, ev.ownBlock = some g → Se g ∧ ¬ Se' g) ∧ (∀ b, Se' b → Se b) ∧ t7 w e Se' xe)
def t7 (w : World) : List b6 → (Nat → Prop) → List Value → Prop
 | [], _, xs => xs = []
 | s :: r, S, xs => ∃ (c ys : List Value) (S1 S2 : Nat → Prop), xs = c ++ ys ∧ (∀ b, S1 b → S b ∧ ¬ S2 b) ∧ (∀ b, S2 b → S b) ∧ G3 w s S1 c ∧ t7 w r S2 ys
end
def A5 (w : World) (v : Value) (ss : List b6) (S : Nat → Prop) : Prop :=
 ∃ (xs : List Value) (S' : Nat → Prop), w.ownsRow 0 106 11 v ss.length xs ∧ (∀ g, v.ownBlock = some g → S g ∧ ¬ S' g) ∧ (∀ b, S' b → S b) ∧ t7 w ss S' xs
def aj9 (w : World) (v : Value) (p : k6) (S : Nat → Prop) : Prop :=
 ∃ (v1 v2 v3 : Value) (S3 : Nat → Prop), v = .agg #[v1, v2, v3] ∧ w.ownsRow 0 3 1 v1 p.vars.length (ints p.vars) ∧ w.ownsRow 0 3 1 v2 p.arrays.length (ints p.arrays) ∧ A5 w v3 p.body S3 ∧
  (∀ g, v1.ownBlock = some g → S g ∧ ¬ S3 g ∧ v2.ownBlock ≠ some g) ∧ (∀ g, v2.ownBlock = some g → S g ∧ ¬ S3 g) ∧ (∀ b, S3 b → S b)
variable {w w' : World} {S S' φ : Nat → Prop}
theorem I1 {e : TypeId} {sz : Nat} {v : Value} {n : Nat} {xs : List Value} (h : w.ownsRow 0 e sz v n xs) (hs : ∀ g, v.ownBlock = some g → w'.heap[g]? = w.heap[g]?) : w'.ownsRow 0 e sz v n xs :=
 (R3.same (R3.mk' h) hs).1
mutual
theorem G5.same : ∀ (e : b5) (S : Nat → Prop) (cs : List Value), G5 w e S cs → (∀ b, S b → b < w.heap.size → w'.heap[b]? = w.heap[b]?) → G5 w' e S cs
 | ⟨_, _, ks⟩, S, _, ⟨v, xs, S', h1, h2, h3, h4, h5⟩, hs => ⟨v, xs, S', h1, I1 h2 fun g hg => hs g (h3 g hg).1 (World.ownsRow.lt h2 g hg).2, h3, h4, t9.same ks S' xs h5 fun b hb => hs b (h4 b hb)⟩
theorem t9.same : ∀ (ks : List b5) (S : Nat → Prop) (xs : List Value), t9 w ks S xs → (∀ b, S b → b < w.heap.size → w'.heap[b]? = w.heap[b]?) → t9 w' ks S xs
 | [], _, _, h, _ => h
 | e :: r, S, _, ⟨c, ys, S1, S2, h1, h2, h3, h4, h5⟩, hs => ⟨c, ys, S1, S2, h1, h2, h3, G5.same e S1 c h4 fun b hb => hs b (h2 b hb).1, t9.same r S2 ys h5 fun b hb => hs b (h3 b hb)⟩
end
theorem B8.same {v : Value} {ks : List b5} (h : B8 w v ks S) (hs : ∀ b, S b → b < w.heap.size → w'.heap[b]? = w.heap[b]?) : B8 w' v ks S := by
 obtain ⟨xs, S', h2, h3, h4, h5⟩ := h
 exact ⟨xs, S', I1 h2 fun g hg => hs g (h3 g hg).1 (World.ownsRow.lt h2 g hg).2, h3, h4, t9.same ks S' xs h5 fun b hb => hs b (h4 b hb)⟩
mutual
theorem G3.same : ∀ (s : b6) (S : Nat → Prop) (cs : List Value), G3 w s S cs → (∀ b, S b → b < w.heap.size → w'.heap[b]? = w.heap[b]?) → G3 w' s S cs
 | ⟨_, _, _, _, _, b, e⟩, S, _, ⟨iv, vv, bv, ev, xb, xe, Si, Sv, Sb, Se, Sb', Se', h1, ⟨d1, d2, d3, d4⟩, h2, h3, ⟨b1, b2, b3, b4⟩, ⟨e1, e2, e3, e4⟩⟩, hs =>
  ⟨iv, vv, bv, ev, xb, xe, Si, Sv, Sb, Se, Sb', Se', h1, ⟨d1, d2, d3, d4⟩, h2.same fun b hb => hs b (d1 b hb).1, h3.same fun b hb => hs b (d2 b hb).1,
   ⟨I1 b1 fun g hg => hs g (d3 g (b2 g hg).1).1 (World.ownsRow.lt b1 g hg).2, b2, b3, t7.same b Sb' xb b4 fun x hx => hs x (d3 x (b3 x hx)).1⟩,
   ⟨I1 e1 fun g hg => hs g (d4 g (e2 g hg).1) (World.ownsRow.lt e1 g hg).2, e2, e3, t7.same e Se' xe e4 fun x hx => hs x (d4 x (e3 x hx))⟩⟩
theorem t7.same : ∀ (ss : List b6) (S : Nat → Prop) (xs : List Value), t7 w ss S xs → (∀ b, S b → b < w.heap.size → w'.heap[b]? = w.heap[b]?) → t7 w' ss S xs
 | [], _, _, h, _ => h
 | s :: r, S, _, ⟨c, ys, S1, S2, h1, h2, h3, h4, h5⟩, hs => ⟨c, ys, S1, S2, h1, h2, h3, G3.same s S1 c h4 fun b hb => hs b (h2 b hb).1, t7.same r S2 ys h5 fun b hb => hs b (h3 b hb)⟩
end
theorem A5.same {v : Value} {ss : List b6} (h : A5 w v ss S) (hs : ∀ b, S b → b < w.heap.size → w'.heap[b]? = w.heap[b]?) : A5 w' v ss S := by
 obtain ⟨xs, S', h2, h3, h4, h5⟩ := h
 exact ⟨xs, S', I1 h2 fun g hg => hs g (h3 g hg).1 (World.ownsRow.lt h2 g hg).2, h3, h4, t7.same ss S' xs h5 fun b hb => hs b (h4 b hb)⟩
theorem aj9.same {v : Value} {p : k6} (h : aj9 w v p S) (hs : ∀ b, S b → b < w.heap.size → w'.heap[b]? = w.heap[b]?) : aj9 w' v p S := by
 obtain ⟨v1, v2, v3, S3, rfl, h1, h2, h3, d1, d2, d3⟩ := h
 exact ⟨v1, v2, v3, S3, rfl, I1 h1 fun g hg => hs g (d1 g hg).1 (World.ownsRow.lt h1 g hg).2, I1 h2 fun g hg => hs g (d2 g hg).1 (World.ownsRow.lt h2 g hg).2, h3.same fun b hb => hs b (d3 b hb), d1, d2, d3⟩
theorem B8.mono {v : Value} {ks : List b5} (h : B8 w v ks S) (hs : ∀ b, S b → S' b) : B8 w v ks S' := by
 obtain ⟨xs, T, h2, h3, h4, h5⟩ := h
 exact ⟨xs, T, h2, fun g hg => ⟨hs g (h3 g hg).1, (h3 g hg).2⟩, fun b hb => hs b (h4 b hb), h5⟩
theorem A5.mono {v : Value} {ss : List b6} (h : A5 w v ss S) (hs : ∀ b, S b → S' b) : A5 w v ss S' := by
 obtain ⟨xs, T, h2, h3, h4, h5⟩ := h
 exact ⟨xs, T, h2, fun g hg => ⟨hs g (h3 g hg).1, (h3 g hg).2⟩, fun b hb => hs b (h4 b hb), h5⟩
theorem aj9.mono {v : Value} {p : k6} (h : aj9 w v p S) (hs : ∀ b, S b → S' b) : aj9 w v p S' := by
 obtain ⟨v1, v2, v3, S3, rfl, h1, h2, h3, d1, d2, d3⟩ := h
 exact ⟨v1, v2, v3, S3, rfl, h1, h2, h3, fun g hg => ⟨hs g (d1 g hg).1, (d1 g hg).2⟩, fun g hg => ⟨hs g (d2 g hg).1, (d2 g hg).2⟩, fun b hb => hs b (d3 b hb)⟩
mutual
theorem G5.read : ∀ (e : b5) (S : Nat → Prop) (cs : List Value), G5 w e S cs → (∀ b, S b → φ b) → O5 w φ e cs
 | ⟨_, _, ks⟩, S, _, ⟨v, xs, S', h1, h2, h3, h4, h5⟩, hs => ⟨v, xs, h1, H1 h2 fun g hg => hs g (h3 g hg).1, t9.read ks S' xs h5 fun b hb => hs b (h4 b hb)⟩
theorem t9.read : ∀ (ks : List b5) (S : Nat → Prop) (xs : List Value), t9 w ks S xs → (∀ b, S b → φ b) → D4 w φ ks xs
 | [], _, _, h, _ => h
 | e :: r, S, _, ⟨c, ys, S1, S2, h1, h2, h3, h4, h5⟩, hs => ⟨c, ys, h1, G5.read e S1 c h4 fun b hb => hs b (h2 b hb).1, t9.read r S2 ys h5 fun b hb => hs b (h3 b hb)⟩
end
theorem B8.read {v : Value} {ks : List b5} (h : B8 w v ks S) (hs : ∀ b, S b → φ b) : t5 w φ v ks := by
 obtain ⟨xs, T, h2, h3, h4, h5⟩ := h
 exact ⟨xs, H1 h2 fun g hg => hs g (h3 g hg).1, t9.read ks T xs h5 fun b hb => hs b (h4 b hb)⟩
mutual
theorem G3.read : ∀ (s : b6) (S : Nat → Prop) (cs : List Value), G3 w s S cs → (∀ b, S b → φ b) → N8 w φ s cs
 | ⟨_, _, _, _, _, b, e⟩, S, _, ⟨iv, vv, bv, ev, xb, xe, Si, Sv, Sb, Se, Sb', Se', h1, ⟨d1, d2, d3, d4⟩, h2, h3, ⟨b1, b2, b3, b4⟩, ⟨e1, e2, e3, e4⟩⟩, hs =>
  ⟨iv, vv, bv, ev, xb, xe, h1, h2.read fun b hb => hs b (d1 b hb).1, h3.read fun b hb => hs b (d2 b hb).1,
   H1 b1 fun g hg => hs g (d3 g (b2 g hg).1).1, t7.read b Sb' xb b4 fun x hx => hs x (d3 x (b3 x hx)).1,
   H1 e1 fun g hg => hs g (d4 g (e2 g hg).1), t7.read e Se' xe e4 fun x hx => hs x (d4 x (e3 x hx))⟩
theorem t7.read : ∀ (ss : List b6) (S : Nat → Prop) (xs : List Value), t7 w ss S xs → (∀ b, S b → φ b) → C8 w φ ss xs
 | [], _, _, h, _ => h
 | s :: r, S, _, ⟨c, ys, S1, S2, h1, h2, h3, h4, h5⟩, hs => ⟨c, ys, h1, G3.read s S1 c h4 fun b hb => hs b (h2 b hb).1, t7.read r S2 ys h5 fun b hb => hs b (h3 b hb)⟩
end
theorem A5.read {v : Value} {ss : List b6} (h : A5 w v ss S) (hs : ∀ b, S b → φ b) : t8 w φ v ss := by
 obtain ⟨xs, T, h2, h3, h4, h5⟩ := h
 exact ⟨xs, H1 h2 fun g hg => hs g (h3 g hg).1, t7.read ss T xs h5 fun b hb => hs b (h4 b hb)⟩
theorem aj9.read {v : Value} {p : k6} (h : aj9 w v p S) (hs : ∀ b, S b → φ b) : ap5 w φ v p := by
 obtain ⟨v1, v2, v3, S3, rfl, h1, h2, h3, d1, d2, d3⟩ := h
 exact ⟨v1, v2, v3, rfl, H1 h1 fun g hg => hs g (d1 g hg).1, H1 h2 fun g hg => hs g (d2 g hg).1, h3.read fun b hb => hs b (d3 b hb)⟩
def bS6 (R : World → (Nat → Prop) → Prop) (S : Nat → Prop) : World → (Nat → Prop) → Prop := fun w φ => R w S ∧ ∀ b, S b → b < w.heap.size ∧ φ b
theorem bS6.nice {R : World → (Nat → Prop) → Prop} (S : Nat → Prop) (hR : ∀ w w' : World, R w S → (∀ b, S b → b < w.heap.size → w'.heap[b]? = w.heap[b]?) → R w' S) : aj4 (bS6 R S) :=
 fun w w' _ _ ha ⟨h1, h2⟩ => ⟨hR w w' h1 fun b hb hlt => (ha.2 b hlt (h2 b hb).2).2, fun b hb => ⟨bY4 (h2 b hb).1 ha.1, (ha.2 b (h2 b hb).1 (h2 b hb).2).1⟩⟩
theorem t9.mono : ∀ {ks : List b5} {S S' : Nat → Prop} {xs : List Value}, t9 w ks S xs → (∀ b, S b → S' b) → t9 w ks S' xs
 | [], _, _, _, h, _ => h
 | _ :: _, _, _, _, ⟨c, ys, S1, S2, h1, h2, h3, h4, h5⟩, hs => ⟨c, ys, S1, S2, h1, fun b hb => ⟨hs b (h2 b hb).1, (h2 b hb).2⟩, fun b hb => hs b (h3 b hb), h4, h5⟩
theorem t7.mono : ∀ {ks : List b6} {S S' : Nat → Prop} {xs : List Value}, t7 w ks S xs → (∀ b, S b → S' b) → t7 w ks S' xs
 | [], _, _, _, h, _ => h
 | _ :: _, _, _, _, ⟨c, ys, S1, S2, h1, h2, h3, h4, h5⟩, hs => ⟨c, ys, S1, S2, h1, fun b hb => ⟨hs b (h2 b hb).1, (h2 b hb).2⟩, fun b hb => hs b (h3 b hb), h4, h5⟩
theorem t9.snoc : ∀ {ks : List b5} {S S' T : Nat → Prop} {xs c : List Value} {e : b5}, t9 w ks S xs → G5 w e T c → (∀ b, S b → S' b ∧ ¬ T b) → (∀ b, T b → S' b) → t9 w (ks ++ [e]) S' (xs ++ c)
 | [], S, S', T, xs, c, e, h, k, d, f => by
  rw [show xs = [] from h]
  exact ⟨c, [], T, fun _ => False, by simp, fun b hb => ⟨f b hb, fun h => h⟩, fun b hb => hb.elim, k, rfl⟩
 | a :: r, S, S', T, _, c, e, ⟨x, ys, S1, S2, h1, h2, h3, h4, h5⟩, k, d, f =>
  ⟨x, ys ++ c, S1, fun b => S2 b ∨ T b, by rw [h1, bZ1], fun b hb => ⟨(d b (h2 b hb).1).1, fun h => h.elim (h2 b hb).2 (d b (h2 b hb).1).2⟩, fun b hb => hb.elim (fun h => (d b (h3 b h)).1) (f b), h4,
   t9.snoc h5 k (fun b hb => ⟨.inl hb, (d b (h3 b hb)).2⟩) fun b hb => .inr hb⟩
theorem t7.snoc : ∀ {ks : List b6} {S S' T : Nat → Prop} {xs c : List Value} {e : b6}, t7 w ks S xs → G3 w e T c → (∀ b, S b → S' b ∧ ¬ T b) → (∀ b, T b → S' b) → t7 w (ks ++ [e]) S' (xs ++ c)
 | [], S, S', T, xs, c, e, h, k, d, f => by
  rw [show xs = [] from h]
  exact ⟨c, [], T, fun _ => False, by simp, fun b hb => ⟨f b hb, fun h => h⟩, fun b hb => hb.elim, k, rfl⟩
 | a :: r, S, S', T, _, c, e, ⟨x, ys, S1, S2, h1, h2, h3, h4, h5⟩, k, d, f =>
  ⟨x, ys ++ c, S1, fun b => S2 b ∨ T b, by rw [h1, bZ1], fun b hb => ⟨(d b (h2 b hb).1).1, fun h => h.elim (h2 b hb).2 (d b (h2 b hb).1).2⟩, fun b hb => hb.elim (fun h => (d b (h3 b h)).1) (f b), h4,
   t7.snoc h5 k (fun b hb => ⟨.inl hb, (d b (h3 b hb)).2⟩) fun b hb => .inr hb⟩
theorem G5.iff (e : b5) (S : Nat → Prop) (cs : List Value) : G5 w e S cs ↔ ∃ kv, cs = [.int .i64 e.kind, .int .i64 e.value, kv] ∧ B8 w kv e.kids S := by
 cases e with
 | mk k n ks => exact ⟨fun ⟨v, xs, T, h1, h2⟩ => ⟨v, h1, xs, T, h2⟩, fun ⟨v, h1, xs, T, h2⟩ => ⟨v, xs, T, h1, h2⟩⟩
theorem G3.iff (s : b6) (S : Nat → Prop) (cs : List Value) : G3 w s S cs ↔ ∃ (iv vv bv ev : Value) (Si Sv Sb Se : Nat → Prop), cs = [.int .i64 s.kind, .int .i64 s.target, .int .i64 s.index.kind, .int .i64 s.index.value, iv, .int .i64 s.value.kind, .int .i64 s.value.value, vv, .int .i64 s.count, bv, ev] ∧
  ((∀ b, Si b → S b ∧ ¬ Sv b ∧ ¬ Sb b ∧ ¬ Se b) ∧ (∀ b, Sv b → S b ∧ ¬ Sb b ∧ ¬ Se b) ∧ (∀ b, Sb b → S b ∧ ¬ Se b) ∧ (∀ b, Se b → S b)) ∧ B8 w iv s.index.kids Si ∧ B8 w vv s.value.kids Sv ∧ A5 w bv s.body Sb ∧ A5 w ev s.els Se := by
 cases s with
 | mk k t i v c b e =>
  exact ⟨fun ⟨iv, vv, bv, ev, xb, xe, Si, Sv, Sb, Se, Sb', Se', h1, h2, h3, h4, h5, h6⟩ => ⟨iv, vv, bv, ev, Si, Sv, Sb, Se, h1, h2, h3, h4, ⟨xb, Sb', h5⟩, ⟨xe, Se', h6⟩⟩,
   fun ⟨iv, vv, bv, ev, Si, Sv, Sb, Se, h1, h2, h3, h4, ⟨xb, Sb', h5⟩, ⟨xe, Se', h6⟩⟩ => ⟨iv, vv, bv, ev, xb, xe, Si, Sv, Sb, Se, Sb', Se', h1, h2, h3, h4, h5, h6⟩⟩
end
def natEq (a b : Nat) : Bool := a == b
def S5 (w : World) : List (List Int) → (Nat → Prop) → List Value → Prop
 | [], _, xs => xs = []
 | r :: rs, S, xs => ∃ (v : Value) (ys : List Value) (S2 : Nat → Prop), xs = v :: ys ∧ w.ownsRow 0 3 1 v r.length (ints r) ∧ (∀ g, v.ownBlock = some g → S g ∧ ¬ S2 g) ∧ (∀ b, S2 b → S b) ∧ S5 w rs S2 ys
def U3 (w : World) : D → (Nat → Prop) → List Value → Prop
 | .exprs l, S, xs => t9 w l S xs
 | .stmts l, S, xs => t7 w l S xs
 | .rows l, S, xs => S5 w l S xs
 | _, _, _ => False
def ao7 : D → Option TypeId
 | .exprs _ => some 104
 | .stmts _ => some 106
 | .rows _ => some 23
 | _ => none
def G9 (w : World) (S : Nat → Prop) (d : D) (v : Value) : Prop :=
 ∃ (e : TypeId) (xs : List Value) (S' : Nat → Prop), ao7 d = some e ∧ w.ownsRow 0 e d.sz v d.len xs ∧ (∀ g, v.ownBlock = some g → S g ∧ ¬ S' g) ∧ (∀ b, S' b → S b) ∧ U3 w d S' xs
section
variable {w w' : World} {S S' T φ : Nat → Prop}
theorem S5.same : ∀ {l : List (List Int)} {S : Nat → Prop} {xs : List Value}, S5 w l S xs → (∀ b, S b → b < w.heap.size → w'.heap[b]? = w.heap[b]?) → S5 w' l S xs
 | [], _, _, h, _ => h
 | _ :: _, _, _, ⟨v, ys, S2, h1, h2, h3, h4, h5⟩, hs => ⟨v, ys, S2, h1, I1 h2 fun g hg => hs g (h3 g hg).1 (World.ownsRow.lt h2 g hg).2, h3, h4, S5.same h5 fun b hb => hs b (h4 b hb)⟩
theorem S5.mono : ∀ {l : List (List Int)} {S S' : Nat → Prop} {xs : List Value}, S5 w l S xs → (∀ b, S b → S' b) → S5 w l S' xs
 | [], _, _, _, h, _ => h
 | _ :: _, _, _, _, ⟨v, ys, S2, h1, h2, h3, h4, h5⟩, hs => ⟨v, ys, S2, h1, h2, fun g hg => ⟨hs g (h3 g hg).1, (h3 g hg).2⟩, fun b hb => hs b (h4 b hb), h5⟩
theorem S5.app : ∀ {a b : List (List Int)} {S T S' : Nat → Prop} {xs ys : List Value}, S5 w a S xs → S5 w b T ys → (∀ x, S x → S' x ∧ ¬ T x) → (∀ x, T x → S' x) → S5 w (a ++ b) S' (xs ++ ys)
 | [], b, _, _, _, xs, ys, h, k, _, f => by rw [show xs = [] from h]; exact k.mono f
 | _ :: _, b, _, T, _, _, ys, ⟨v, zs, S2, h1, h2, h3, h4, h5⟩, k, d, f =>
  ⟨v, zs ++ ys, fun x => S2 x ∨ T x, by rw [h1]; rfl, h2, fun g hg => ⟨(d g (h3 g hg).1).1, fun h => h.elim (h3 g hg).2 (d g (h3 g hg).1).2⟩, fun x hx => hx.elim (fun h => (d x (h4 x h)).1) (f x),
   S5.app h5 k (fun x hx => ⟨.inl hx, (d x (h4 x hx)).2⟩) fun x hx => .inr hx⟩
theorem t9.app : ∀ {a b : List b5} {S T S' : Nat → Prop} {xs ys : List Value}, t9 w a S xs → t9 w b T ys → (∀ x, S x → S' x ∧ ¬ T x) → (∀ x, T x → S' x) → t9 w (a ++ b) S' (xs ++ ys)
 | [], b, _, _, _, xs, ys, h, k, _, f => by rw [show xs = [] from h]; exact k.mono f
 | _ :: _, b, _, T, _, _, ys, ⟨c, zs, S1, S2, h1, h2, h3, h4, h5⟩, k, d, f =>
  ⟨c, zs ++ ys, S1, fun x => S2 x ∨ T x, by rw [h1, bZ1], fun x hx => ⟨(d x (h2 x hx).1).1, fun h => h.elim (h2 x hx).2 (d x (h2 x hx).1).2⟩, fun x hx => hx.elim (fun h => (d x (h3 x h)).1) (f x), h4,
   t9.app h5 k (fun x hx => ⟨.inl hx, (d x (h3 x hx)).2⟩) fun x hx => .inr hx⟩
theorem t7.app : ∀ {a b : List b6} {S T S' : Nat → Prop} {xs ys : List Value}, t7 w a S xs → t7 w b T ys → (∀ x, S x → S' x ∧ ¬ T x) → (∀ x, T x → S' x) → t7 w (a ++ b) S' (xs ++ ys)
 | [], b, _, _, _, xs, ys, h, k, _, f => by rw [show xs = [] from h]; exact k.mono f
 | _ :: _, b, _, T, _, _, ys, ⟨c, zs, S1, S2, h1, h2, h3, h4, h5⟩, k, d, f =>
  ⟨c, zs ++ ys, S1, fun x => S2 x ∨ T x, by rw [h1, bZ1], fun x hx => ⟨(d x (h2 x hx).1).1, fun h => h.elim (h2 x hx).2 (d x (h2 x hx).1).2⟩, fun x hx => hx.elim (fun h => (d x (h3 x h)).1) (f x), h4,
   t7.app h5 k (fun x hx => ⟨.inl hx, (d x (h3 x hx)).2⟩) fun x hx => .inr hx⟩
theorem U3.same {d : D} {xs : List Value} (h : U3 w d S xs) (hs : ∀ b, S b → b < w.heap.size → w'.heap[b]? = w.heap[b]?) : U3 w' d S xs := by
 cases d <;> simp only [U3] at h ⊢
 ·exact h.same hs
 ·exact t9.same _ _ _ h hs
 ·exact t7.same _ _ _ h hs
theorem U3.mono {d : D} {xs : List Value} (h : U3 w d S xs) (hs : ∀ b, S b → S' b) : U3 w d S' xs := by
 cases d <;> simp only [U3] at h ⊢
 ·exact h.mono hs
 ·exact t9.mono h hs
 ·exact t7.mono h hs
theorem U3.cut {d : D} {xs : List Value} (h : U3 w d S xs) : U3 w d (fun b => S b ∧ b < w.heap.size) xs := by
 cases d <;> simp only [U3] at h ⊢
 ·rename_i l
  have : ∀ {l : List (List Int)} {S : Nat → Prop} {xs : List Value}, S5 w l S xs → S5 w l (fun b => S b ∧ b < w.heap.size) xs := by
   intro l
   induction l with
   | nil => intro S xs h; exact h
   | cons r rs ih =>
    rintro S xs ⟨v, ys, S2, h1, h2, h3, h4, h5⟩
    exact ⟨v, ys, fun b => S2 b ∧ b < w.heap.size, h1, h2, fun g hg => ⟨⟨(h3 g hg).1, (World.ownsRow.lt h2 g hg).2⟩, fun h => (h3 g hg).2 h.1⟩, fun b hb => ⟨h4 b hb.1, hb.2⟩, ih h5⟩
  exact this h
 ·exact cutEs _ _ _ h
 ·exact cutSs _ _ _ h
where
 cutE : ∀ (e : b5) (S : Nat → Prop) (cs : List Value), G5 w e S cs → G5 w e (fun b => S b ∧ b < w.heap.size) cs
  | ⟨_, _, ks⟩, S, _, ⟨v, xs, S', h1, h2, h3, h4, h5⟩ => ⟨v, xs, fun b => S' b ∧ b < w.heap.size, h1, h2, fun g hg => ⟨⟨(h3 g hg).1, (World.ownsRow.lt h2 g hg).2⟩, fun h => (h3 g hg).2 h.1⟩, fun b hb => ⟨h4 b hb.1, hb.2⟩, cutEs ks S' xs h5⟩
 cutEs : ∀ (ks : List b5) (S : Nat → Prop) (xs : List Value), t9 w ks S xs → t9 w ks (fun b => S b ∧ b < w.heap.size) xs
  | [], _, _, h => h
  | e :: r, S, _, ⟨c, ys, S1, S2, h1, h2, h3, h4, h5⟩ => ⟨c, ys, fun b => S1 b ∧ b < w.heap.size, fun b => S2 b ∧ b < w.heap.size, h1, fun b hb => ⟨⟨(h2 b hb.1).1, hb.2⟩, fun h => (h2 b hb.1).2 h.1⟩, fun b hb => ⟨h3 b hb.1, hb.2⟩, cutE e S1 c h4, cutEs r S2 ys h5⟩
 cutS : ∀ (s : b6) (S : Nat → Prop) (cs : List Value), G3 w s S cs → G3 w s (fun b => S b ∧ b < w.heap.size) cs
  | ⟨_, _, i, v, _, b, e⟩, S, _, ⟨iv, vv, bv, ev, xb, xe, Si, Sv, Sb, Se, Sb', Se', h1, ⟨d1, d2, d3, d4⟩, ⟨xi, Ti, i1, i2, i3, i4⟩, ⟨xv, Tv, v1, v2, v3, v4⟩, ⟨b1, b2, b3, b4⟩, ⟨e1, e2, e3, e4⟩⟩ =>
   ⟨iv, vv, bv, ev, xb, xe, fun b => Si b ∧ b < w.heap.size, fun b => Sv b ∧ b < w.heap.size, fun b => Sb b ∧ b < w.heap.size, fun b => Se b ∧ b < w.heap.size, fun b => Sb' b ∧ b < w.heap.size, fun b => Se' b ∧ b < w.heap.size, h1,
    ⟨fun b hb => ⟨⟨(d1 b hb.1).1, hb.2⟩, fun h => (d1 b hb.1).2.1 h.1, fun h => (d1 b hb.1).2.2.1 h.1, fun h => (d1 b hb.1).2.2.2 h.1⟩, fun b hb => ⟨⟨(d2 b hb.1).1, hb.2⟩, fun h => (d2 b hb.1).2.1 h.1, fun h => (d2 b hb.1).2.2 h.1⟩, fun b hb => ⟨⟨(d3 b hb.1).1, hb.2⟩, fun h => (d3 b hb.1).2 h.1⟩, fun b hb => ⟨d4 b hb.1, hb.2⟩⟩,
    ⟨xi, fun b => Ti b ∧ b < w.heap.size, i1, fun g hg => ⟨⟨(i2 g hg).1, (World.ownsRow.lt i1 g hg).2⟩, fun h => (i2 g hg).2 h.1⟩, fun b hb => ⟨i3 b hb.1, hb.2⟩, cutEs _ _ _ i4⟩,
    ⟨xv, fun b => Tv b ∧ b < w.heap.size, v1, fun g hg => ⟨⟨(v2 g hg).1, (World.ownsRow.lt v1 g hg).2⟩, fun h => (v2 g hg).2 h.1⟩, fun b hb => ⟨v3 b hb.1, hb.2⟩, cutEs _ _ _ v4⟩,
    ⟨b1, fun g hg => ⟨⟨(b2 g hg).1, (World.ownsRow.lt b1 g hg).2⟩, fun h => (b2 g hg).2 h.1⟩, fun b hb => ⟨b3 b hb.1, hb.2⟩, cutSs _ _ _ b4⟩,
    ⟨e1, fun g hg => ⟨⟨(e2 g hg).1, (World.ownsRow.lt e1 g hg).2⟩, fun h => (e2 g hg).2 h.1⟩, fun b hb => ⟨e3 b hb.1, hb.2⟩, cutSs _ _ _ e4⟩⟩
 cutSs : ∀ (ks : List b6) (S : Nat → Prop) (xs : List Value), t7 w ks S xs → t7 w ks (fun b => S b ∧ b < w.heap.size) xs
  | [], _, _, h => h
  | e :: r, S, _, ⟨c, ys, S1, S2, h1, h2, h3, h4, h5⟩ => ⟨c, ys, fun b => S1 b ∧ b < w.heap.size, fun b => S2 b ∧ b < w.heap.size, h1, fun b hb => ⟨⟨(h2 b hb.1).1, hb.2⟩, fun h => (h2 b hb.1).2 h.1⟩, fun b hb => ⟨h3 b hb.1, hb.2⟩, cutS e S1 c h4, cutSs r S2 ys h5⟩
theorem G9.same {d : D} {v : Value} (h : G9 w S d v) (hs : ∀ b, S b → b < w.heap.size → w'.heap[b]? = w.heap[b]?) : G9 w' S d v := by
 obtain ⟨e, xs, S', h0, h1, h2, h3, h4⟩ := h
 exact ⟨e, xs, S', h0, I1 h1 fun g hg => hs g (h2 g hg).1 (World.ownsRow.lt h1 g hg).2, h2, h3, h4.same fun b hb => hs b (h3 b hb)⟩
theorem G9.mono {d : D} {v : Value} (h : G9 w S d v) (hs : ∀ b, S b → S' b) : G9 w S' d v := by
 obtain ⟨e, xs, T, h0, h1, h2, h3, h4⟩ := h
 exact ⟨e, xs, T, h0, h1, fun g hg => ⟨hs g (h2 g hg).1, (h2 g hg).2⟩, fun b hb => hs b (h3 b hb), h4⟩
theorem G9.cut {d : D} {v : Value} (h : G9 w S d v) : G9 w (fun b => S b ∧ b < w.heap.size) d v := by
 obtain ⟨e, xs, T, h0, h1, h2, h3, h4⟩ := h
 exact ⟨e, xs, fun b => T b ∧ b < w.heap.size, h0, h1, fun g hg => ⟨⟨(h2 g hg).1, (World.ownsRow.lt h1 g hg).2⟩, fun h => (h2 g hg).2 h.1⟩, fun b hb => ⟨h3 b hb.1, hb.2⟩, h4.cut⟩
theorem G9.kids {l : List b5} {v : Value} : G9 w S (.exprs l) v ↔ B8 w v l S :=
 ⟨fun ⟨_, xs, S', h0, h1, h2, h3, h4⟩ => ⟨xs, S', by cases h0; exact h1, h2, h3, h4⟩, fun ⟨xs, S', h1, h2, h3, h4⟩ => ⟨_, xs, S', rfl, h1, h2, h3, h4⟩⟩
theorem G9.block {l : List b6} {v : Value} : G9 w S (.stmts l) v ↔ A5 w v l S :=
 ⟨fun ⟨_, xs, S', h0, h1, h2, h3, h4⟩ => ⟨xs, S', by cases h0; exact h1, h2, h3, h4⟩, fun ⟨xs, S', h1, h2, h3, h4⟩ => ⟨_, xs, S', rfl, h1, h2, h3, h4⟩⟩
theorem S5.at : ∀ {l : List (List Int)} {S : Nat → Prop} {xs : List Value}, S5 w l S xs → xs.length = l.length ∧ ∀ i (_ : i < l.length), ∃ u, xs[i]? = some u ∧ w.ownsRow 0 3 1 u l[i].length (ints l[i]) ∧ ∀ g, u.ownBlock = some g → S g
 | [], _, xs, h => ⟨by rw [show xs = [] from h]; rfl, fun i hi => by simp at hi⟩
 | r :: rs, S, _, ⟨v, ys, S2, h1, h2, h3, h4, h5⟩ => by
  subst h1
  obtain ⟨k1, k2⟩ := S5.at h5
  refine ⟨by simp [k1], fun i hi => ?_⟩
  cases i with
  | zero => exact ⟨v, rfl, h2, fun g hg => (h3 g hg).1⟩
  | succ i =>
   obtain ⟨u, a, b, c⟩ := k2 i (by simpa using hi)
   exact ⟨u, by simpa using a, b, fun g hg => h4 g (c g hg)⟩
theorem G9.read {d : D} {v : Value} (h : G9 w S d v) (hs : ∀ b, S b → φ b) : RD w φ d v := by
 cases d with
 | exprs l => exact B8.read (G9.kids.1 h) hs
 | stmts l => exact A5.read (G9.block.1 h) hs
 | rows l =>
  obtain ⟨e, xs, S', h0, h1, h2, h3, h4⟩ := h
  obtain ⟨k1, k2⟩ := S5.at h4
  exact ⟨xs, H1 h1 fun g hg => hs g (h2 g hg).1, fun i hi => let ⟨u, a, b, c⟩ := k2 i hi; ⟨u, a, H1 b fun g hg => hs g (h3 g (c g hg))⟩⟩
 | ints l => obtain ⟨_, _, _, h0, _⟩ := h; cases h0
 | bools l => obtain ⟨_, _, _, h0, _⟩ := h; cases h0
 | bytes l => obtain ⟨_, _, _, h0, _⟩ := h; cases h0
 | strs l => obtain ⟨_, _, _, h0, _⟩ := h; cases h0
 | instrs l => obtain ⟨_, _, _, h0, _⟩ := h; cases h0
 | events l => obtain ⟨_, _, _, h0, _⟩ := h; cases h0
 | brows l => obtain ⟨_, _, _, h0, _⟩ := h; cases h0
def I8 : Value → Value
 | .tuple a => a.getD 0 undef
 | v => v
def G7 : Value → Nat → Prop
 | .tuple a => fun b => Value.int .u64 (b : Int) ∈ a.toList.drop 1
 | _ => fun _ => False
theorem as5 (v : Value) (S : Nat → Prop) (n : Nat) (h : ∀ b, S b → b < n) : ∃ x, I8 x = v ∧ ∀ b, G7 x b ↔ S b := by
 classical
 refine ⟨.tuple (v :: ((bX4 n).filter fun b => decide (S b)).map fun b : Nat => Value.int .u64 (b : Int)).toArray, rfl, fun b => ?_⟩
 simp only [G7, List.drop_succ_cons, List.drop_zero, List.mem_map, List.mem_filter, List.mem_range, decide_eq_true_eq]
 constructor
 ·rintro ⟨a, ⟨_, h1⟩, h2⟩
  simp only [Value.int.injEq, true_and] at h2
  have : a = b := by omega
  subst this; exact h1
 ·intro hb; exact ⟨b, ⟨h b hb, hb⟩, rfl⟩
end
inductive AV where
 | v (x : Value)
 | ptr (id off : Nat)
 | ea (id i j sz : Nat)
 | ref (id : Nat)
 | agg (l : List AV)
 | tup (l : List AV)
 | fn (f : Nat) (l : List AV)
 | bm (f : Nat) (l : List AV)
 | tref (id : Nat)
def Y9 : Value → Nat
 | .pointer (some a) => a.block
 | _ => 0
def aK9 (n : Nat) : Value → Addr
 | .slice (some a) _ _ => ⟨a.block, a.off + n, none⟩
 | _ => ⟨0, n, none⟩
mutual
def AV.val (ρ : Nat → Value) : AV → Value
 | .v x => x
 | .ptr id off => .pointer (some ⟨Y9 (ρ id), off, none⟩)
 | .ea id i j sz => .pointer (some (aK9 (i * sz + j) (I8 (ρ id))))
 | .ref id => ρ id
 | .agg l => .agg (AV.vals ρ l).toArray
 | .tup l => .tuple (AV.vals ρ l).toArray
 | .fn f l => .func (.func f) #[] (AV.vals ρ l).toArray
 | .bm f l => .func (.func f) (AV.vals ρ l).toArray #[]
 | .tref id => I8 (ρ id)
def AV.vals (ρ : Nat → Value) : List AV → List Value
 | [] => []
 | x :: r => x.val ρ :: AV.vals ρ r
end
mutual
def AV.ids : AV → List Nat
 | .v _ => []
 | .ptr id _ => [id]
 | .ea id _ _ _ => [id]
 | .ref id => [id]
 | .agg l => AV.idsL l
 | .tup l => AV.idsL l
 | .fn _ l => AV.idsL l
 | .bm _ l => AV.idsL l
 | .tref id => [id]
def AV.idsL : List AV → List Nat
 | [] => []
 | x :: r => x.ids ++ AV.idsL r
end
mutual
def AV.ren (σ : Nat → Nat) : AV → AV
 | .v x => .v x
 | .ptr id off => .ptr (σ id) off
 | .ea id i j sz => .ea (σ id) i j sz
 | .ref id => .ref (σ id)
 | .agg l => .agg (AV.renL σ l)
 | .tup l => .tup (AV.renL σ l)
 | .fn f l => .fn f (AV.renL σ l)
 | .bm f l => .bm f (AV.renL σ l)
 | .tref id => .tref (σ id)
def AV.renL (σ : Nat → Nat) : List AV → List AV
 | [] => []
 | x :: r => x.ren σ :: AV.renL σ r
end
mutual
theorem AV.val_congr {ρ ρ' : Nat → Value} : ∀ (x : AV), (∀ id ∈ x.ids, ρ' id = ρ id) → x.val ρ' = x.val ρ
 | .v _, _ => rfl
 | .ptr id _, h => by simp only [AV.val]; rw [h id (by simp [AV.ids])]
 | .ea id _ _ _, h => by simp only [AV.val]; rw [h id (by simp [AV.ids])]
 | .ref id, h => h id (by simp [AV.ids])
 | .agg l, h => by simp only [AV.val]; rw [AV.vals_congr l h]
 | .tup l, h => by simp only [AV.val]; rw [AV.vals_congr l h]
 | .fn _ l, h => by simp only [AV.val]; rw [AV.vals_congr l h]
 | .bm _ l, h => by simp only [AV.val]; rw [AV.vals_congr l h]
 | .tref id, h => by simp only [AV.val]; rw [h id (by simp [AV.ids])]
theorem AV.vals_congr {ρ ρ' : Nat → Value} : ∀ (l : List AV), (∀ id ∈ AV.idsL l, ρ' id = ρ id) → AV.vals ρ' l = AV.vals ρ l
 | [], _ => rfl
 | x :: r, h => by
  simp only [AV.vals]
  rw [AV.val_congr x fun id hi => h id (by simp [AV.idsL, hi]), AV.vals_congr r fun id hi => h id (by simp [AV.idsL, hi])]
end
mutual
theorem AV.val_ren {ρ : Nat → Value} {σ : Nat → Nat} : ∀ (x : AV), (x.ren σ).val ρ = x.val fun i => ρ (σ i)
 | .v _ => rfl
 | .ptr _ _ => rfl
 | .ea _ _ _ _ => rfl
 | .ref _ => rfl
 | .agg l => by simp only [AV.ren, AV.val]; rw [AV.vals_ren l]
 | .tup l => by simp only [AV.ren, AV.val]; rw [AV.vals_ren l]
 | .fn _ l => by simp only [AV.ren, AV.val]; rw [AV.vals_ren l]
 | .bm _ l => by simp only [AV.ren, AV.val]; rw [AV.vals_ren l]
 | .tref _ => rfl
theorem AV.vals_ren {ρ : Nat → Value} {σ : Nat → Nat} : ∀ (l : List AV), AV.vals ρ (AV.renL σ l) = AV.vals (fun i => ρ (σ i)) l
 | [] => rfl
 | x :: r => by simp only [AV.renL, AV.vals]; rw [AV.val_ren x, AV.vals_ren r]
end
theorem AV.vals_length (ρ : Nat → Value) (l : List AV) : (AV.vals ρ l).length = l.length := by
 induction l with
 | nil => rfl
 | cons x r ih => simp [AV.vals, ih]
theorem AV.vals_get (ρ : Nat → Value) : ∀ (l : List AV) (i : Nat), (AV.vals ρ l)[i]? = (l[i]?).map (AV.val ρ)
 | [], i => by simp [AV.vals]
 | x :: r, 0 => by simp [AV.vals]
 | x :: r, i + 1 => by simp [AV.vals, AV.vals_get ρ r i]
theorem AV.vals_append (ρ : Nat → Value) (l m : List AV) : AV.vals ρ (l ++ m) = AV.vals ρ l ++ AV.vals ρ m := by
 induction l with
 | nil => rfl
 | cons x r ih => simp [AV.vals, ih]
theorem AV.vals_take (ρ : Nat → Value) : ∀ (l : List AV) (n : Nat), AV.vals ρ (l.take n) = (AV.vals ρ l).take n
 | [], n => by simp [AV.vals]
 | x :: r, 0 => by simp [AV.vals]
 | x :: r, n + 1 => by simp [AV.vals, AV.vals_take ρ r n]
theorem AV.vals_drop (ρ : Nat → Value) : ∀ (l : List AV) (n : Nat), AV.vals ρ (l.drop n) = (AV.vals ρ l).drop n
 | [], n => by simp [AV.vals]
 | x :: r, 0 => by simp [AV.vals]
 | x :: r, n + 1 => by simp [AV.vals, AV.vals_drop ρ r n]
inductive It where
 | none
 | dead
 | box (cs : List AV)
 | dat (d : D)
 | row (e : TypeId) (d : D)
 | tree (d : D)
 | kept (e : Option TypeId) (d : D)
def It.ids : It → List Nat
 | .box cs => AV.idsL cs
 | _ => []
def It.ren (σ : Nat → Nat) : It → It
 | .box cs => .box (AV.renL σ cs)
 | x => x
def It.res (ρ : Nat → Value) (id : Nat) : It → Rs
 | .none => Rs.none
 | .dead => Rs.none
 | .box cs => .box (Y9 (ρ id)) (AV.vals ρ cs)
 | .dat d => .dat fun w φ => RD w φ d (ρ id)
 | .row e d => .row e d.sz (ρ id) d.len fun xs w φ => RW w φ d xs
 | .tree d => .own (G7 (ρ id)) fun w => G9 w (G7 (ρ id)) d (I8 (ρ id))
 | (.kept (Option.some e) d) => .row e d.sz (ρ id) d.len fun xs w φ => RW w φ d xs
 | (.kept Option.none d) => .own (G7 (ρ id)) fun w => G9 w (G7 (ρ id)) d (I8 (ρ id))
def It.unK : It → It
 | (.kept (Option.some e) d) => .row e d
 | (.kept Option.none d) => .tree d
 | x => x
theorem It.res_unK {ρ : Nat → Value} {i : Nat} (x : It) : x.unK.res ρ i = x.res ρ i := by
 cases x with
 | kept e d => cases e <;> rfl
 | _ => rfl
theorem It.ids_unK (x : It) : x.unK.ids = x.ids := by
 cases x with
 | kept e d => cases e <;> rfl
 | _ => rfl
theorem It.unK_ren (σ : Nat → Nat) (x : It) : (x.ren σ).unK = x.unK.ren σ := by
 cases x with
 | kept e d => cases e <;> rfl
 | _ => rfl
theorem It.res_congr {ρ ρ' : Nat → Value} {id : Nat} (x : It) (h : ∀ i ∈ x.ids, ρ' i = ρ i) (hid : x = .none ∨ x = .dead ∨ ρ' id = ρ id) : x.res ρ' id = x.res ρ id := by
 cases x with
 | none => rfl
 | dead => rfl
 | box cs => rcases hid with h0 | h0 | h0 <;> first | cases h0 | (simp only [It.res]; rw [h0, AV.vals_congr cs h])
 | dat d => rcases hid with h0 | h0 | h0 <;> first | cases h0 | (simp only [It.res]; rw [h0])
 | row e d => rcases hid with h0 | h0 | h0 <;> first | cases h0 | (simp only [It.res]; rw [h0])
 | tree d => rcases hid with h0 | h0 | h0 <;> first | cases h0 | (simp only [It.res]; rw [h0])
 | kept e d => cases e <;> (rcases hid with h0 | h0 | h0 <;> first | cases h0 | (simp only [It.res]; rw [h0]))
theorem It.res_ren {ρ : Nat → Value} {σ : Nat → Nat} {i : Nat} (x : It) : (x.ren σ).res ρ (σ i) = x.res (fun i => ρ (σ i)) i := by
 cases x with
 | box cs => simp only [It.ren, It.res]; rw [AV.vals_ren]
 | kept e d => cases e <;> rfl
 | _ => rfl
def w7 (l : List It) : Nat → It := fun i => l.getD i .none
def v9 {ι : Type} (F : ι → Rs) (ρ : Nat → Value) (S : Nat → It) : ι ⊕ Nat → Rs
 | .inl i => F i
 | .inr j => (S j).res ρ j
def v8 (S : Nat → It) : List (Nat × It) → Nat → It
 | [], i => S i
 | (j, x) :: r, i => if i = j then x else v8 S r i
theorem at8 {S : Nat → It} {l : List (Nat × It)} {i : Nat} (h : i ∉ l.map (·.1)) : v8 S l i = S i := by
 induction l with
 | nil => rfl
 | cons p r ih =>
  simp only [bY9, bZ6, not_or] at h
  simp only [v8, if_neg h.1]; exact ih h.2
def Inv (S : Nat → It) (ρ : Nat → Value) (mk : List Nat) : Prop := ∀ ρ' : Nat → Value, (∀ id, id ∉ mk → ρ' id = ρ id) → ∀ j, (S j).res ρ' j = (S j).res ρ j
def H0 (mk : List Nat) (ρ ρ' : Nat → Value) : Prop := ∀ id, id ∉ mk → ρ' id = ρ id
theorem H0.refl (mk : List Nat) (ρ : Nat → Value) : H0 mk ρ ρ := fun _ _ => rfl
section
variable {P : Program} {ι : Type} {φ ψ : Nat → Prop} {w0 w w' : World} {F : ι → Rs} {ρ : Nat → Value} {S : Nat → It}
def O8 (P : Program) (o : Oper) (e : Operand → Value) (w : World) (K : Value → World → Prop) : Prop :=
 (∃ v w', (execOp e o).run P w = .ok (.value v) w' ∧ K v w') ∨ (∃ w', (execOp e o).run P w = .ok .skip w' ∧ K undef w') ∨
  ∃ f args w', (execOp e o).run P w = .ok (.enter f args) w' ∧ Calls P f args w' fun x w'' => ∃ v, x = .returned v ∧ K v w''
theorem O8.mono {o : Oper} {e : Operand → Value} {K K' : Value → World → Prop} (h : O8 P o e w K) (hk : ∀ v w', K v w' → K' v w') : O8 P o e w K' := by
 rcases h with ⟨v, w', h1, h2⟩ | ⟨w', h1, h2⟩ | ⟨f, args, w', h1, h2⟩
 ·exact .inl ⟨v, w', h1, hk _ _ h2⟩
 ·exact .inr (.inl ⟨w', h1, hk _ _ h2⟩)
 ·exact .inr (.inr ⟨f, args, w', h1, h2.mono fun x w'' ⟨v, h3, h4⟩ => ⟨v, h3, hk _ _ h4⟩⟩)
theorem O8.wp {ops : Array Oper} {Q : Exit → Act → World → Prop} {rest : List Oper} {o : Oper} {a : Act} (hw : Region.wanted o (yielded ops a.tmps) = true) (h : O8 P o a.eval w fun v w' => wpList P ops Q rest (a.put o.dst v) w') : wpList P ops Q (o :: rest) a w := by
 unfold wpList
 rw [if_pos hw]
 refine .inl ?_
 unfold Oper.wp
 rcases h with ⟨v, w', h1, h2⟩ | ⟨w', h1, h2⟩ | ⟨f, args, w', h1, h2⟩
 ·rw [h1]; exact h2
 ·rw [h1]; exact h2
 ·rw [h1]
  refine Calls.mono h2 fun x w'' ⟨v, h3, h4⟩ => ?_
  subst h3; exact h4
theorem be9 {ops : Array Oper} {Q : Exit → Act → World → Prop} {rest : List Oper} {o : Oper} {a : Act} (hw : Region.wanted o (yielded ops a.tmps) = false) (h : wpList P ops Q rest (a.put o.dst undef) w) : wpList P ops Q (o :: rest) a w := by
 unfold wpList
 rw [if_neg (by simp [hw])]; exact h
theorem s7.one (M : s7 φ ψ w0 w (v9 F ρ S)) (id : Nat) (x : It) (mk : List Nat) {ρ' : Nat → Value} (hi : Inv S ρ mk) (ha : H0 mk ρ ρ')
  (hk : D0 (fun b => ¬ ((S id).res ρ id).blk b) w w') (hg : ∀ g, (x.res ρ' id).blk g → ((S id).res ρ id).blk g ∨ w.heap.size ≤ g)
  (h : (x.res ρ' id).holds w' (FrF φ (v9 F ρ' (v8 S [(id, x)])))) : s7 φ ψ w0 w' (v9 F ρ' (v8 S [(id, x)])) := by
 have e : v9 F ρ S = v9 F ρ' S := by
  funext k; cases k with
  | inl i => rfl
  | inr j => exact (hi ρ' ha j).symm
 have hx : v9 F ρ' (v8 S [(id, x)]) (.inr id) = x.res ρ' id := by simp [v9, v8]
 refine s7.put M (.inr id) (fun k hk' => ?_) hk (by rw [hx]; exact h) (fun g hg' => hg g (by rw [hx] at hg'; exact hg'))
 rw [e]
 cases k with
 | inl i => rfl
 | inr j =>
  have : j ≠ id := fun e => hk' (by rw [e])
  simp [v9, v8, this]
theorem D0.any {ψ : Nat → Prop} {w w' : World} (b : Below w.heap.size w w') : D0 ψ w w' := D0.of_below b fun _ h _ => h
def xav : List X → Nat → List AV
 | [], _ => []
 | .v x :: r, id => .v x :: xav r id
 | .sl _ :: r, id => .ref id :: xav r (id + 1)
def X8 : List X → Nat → List (Nat × It)
 | [], _ => []
 | .v _ :: r, id => X8 r id
 | .sl d :: r, id => (id, .dat d) :: X8 r (id + 1)
theorem aS6 : ∀ {xs : List X} {id j : Nat}, j ∈ (X8 xs id).map (·.1) → id ≤ j
 | [], _, _, h => by simp [X8] at h
 | .v _ :: r, id, j, h => aS6 (xs := r) h
 | .sl d :: r, id, j, h => by
  simp only [X8, bY9, bZ6] at h
  rcases h with rfl | h
  ·exact bW6 _
  ·have := aS6 h; omega
def XHs (w : World) (φ : Nat → Prop) : List X → List Value → Prop
 | [], [] => True
 | x :: r, u :: s => XH w φ x u ∧ XHs w φ r s
 | _, _ => False
theorem XHs.agr {φ φ' : Nat → Prop} (ha : N2 φ φ' w w') : ∀ {xs : List X} {us : List Value}, XHs w φ xs us → XHs w' φ' xs us
 | [], [], _ => trivial
 | _ :: _, _ :: _, h => ⟨XH.nice _ _ _ _ _ _ ha h.1, XHs.agr ha h.2⟩
 | [], _ :: _, h => h
 | _ :: _, [], h => h
theorem bp1 (S : Nat → It) (id : Nat) (x : It) (l : List (Nat × It)) (h : id ∉ l.map (·.1)) : v8 (v8 S [(id, x)]) l = v8 S ((id, x) :: l) := by
 funext i
 by_cases e : i = id
 ·subst e; rw [at8 h]; simp [v8]
 ·have : ∀ (l : List (Nat × It)), v8 (v8 S [(id, x)]) l i = v8 S l i := by
   intro l
   induction l with
   | nil => simp [v8, e]
   | cons p r ih => simp only [v8]; split; rfl; exact ih
  rw [this]; simp [v8, e]
theorem s7.dats : ∀ (xs : List X) (us : List Value) (id : Nat) {ρ : Nat → Value} {S : Nat → It}, s7 φ ψ w0 w (v9 F ρ S) → XHs w (FrF φ (v9 F ρ S)) xs us → (∀ j ∈ (X8 xs id).map (·.1), S j = .none) → Inv S ρ ((X8 xs id).map (·.1)) →
  ∃ ρ', H0 ((X8 xs id).map (·.1)) ρ ρ' ∧ s7 φ ψ w0 w (v9 F ρ' (v8 S (X8 xs id))) ∧ us = AV.vals ρ' (xav xs id)
 | [], [], _, ρ, S, M, _, _, _ => ⟨ρ, H0.refl _ _, M, rfl⟩
 | .v x :: r, u :: s, id, ρ, S, M, h, hn, hi => by
  obtain ⟨ρ', h1, h2, h3⟩ := s7.dats r s id M h.2 hn hi
  exact ⟨ρ', h1, h2, by simp only [xav, AV.vals]; rw [← h3, show u = x from h.1]; rfl⟩
 | .sl d :: r, u :: s, id, ρ, S, M, h, hn, hi => by
  have hid : S id = .none := hn id (by simp [X8])
  have hnot : id ∉ (X8 r (id + 1)).map (·.1) := fun h => by have := aS6 h; omega
  have ha : H0 ((X8 (.sl d :: r) id).map (·.1)) ρ (fun j => if j = id then u else ρ j) := fun j hj => by
   have : j ≠ id := fun e => hj (by simp [X8, e])
   simp [this]
  have hsame : ∀ b, FrF φ (v9 F ρ S) b → FrF φ (v9 F (fun j => if j = id then u else ρ j) (v8 S [(id, .dat d)])) b := fun b hb => ⟨hb.1, fun k hk => by
   cases k with
   | inl i => exact hb.2 (.inl i) hk
   | inr j =>
    by_cases e : j = id
    ·subst e; simp only [v9, v8, if_true] at hk; exact hk.elim
    ·simp only [v9, v8, if_neg e] at hk
     rw [hi _ ha j] at hk
     exact hb.2 (.inr j) hk⟩
  have M1 := M.one id (.dat d) _ hi ha (D0.refl _ _) (fun g hg => hg.elim) (by
   refine ⟨RD.nice _ _, ?_⟩
   simp only [if_true]
   exact RD.nice _ _ _ _ _ _ (N2.mono fun b _ hb => hsame b hb) h.1)
  obtain ⟨ρ', h1, h2, h3⟩ := s7.dats r s (id + 1) M1 (XHs.agr (N2.mono fun b _ hb => hsame b hb) h.2)
   (fun j hj => by
    have : j ≠ id := fun e => hnot (e ▸ hj)
    simp only [v8, if_neg this]; exact hn j (by simp only [X8, bY9, bZ6]; exact .inr hj))
   (fun ρ2 h2 j => by
    have ha2 : H0 ((X8 (.sl d :: r) id).map (·.1)) ρ ρ2 := fun k hk => by
     have hk1 : k ≠ id := fun e => hk (by simp [X8, e])
     rw [h2 k fun hh => hk (by simp only [X8, bY9, bZ6]; exact .inr hh)]; simp [hk1]
    by_cases e : j = id
    ·subst e
     simp only [v8, if_true, It.res]
     rw [h2 j hnot]; simp
    ·simp only [v8, if_neg e]
     rw [hi _ ha2 j, hi _ ha j])
  refine ⟨ρ', fun j hj => ?_, by rw [bp1 _ _ _ _ hnot] at h2; exact h2, ?_⟩
  ·rw [h1 j fun hh => hj (by simp only [X8, bY9, bZ6]; exact .inr hh)]
   exact ha j hj
  ·simp only [xav, AV.vals]
   rw [← h3]
   simp only [AV.val]
   rw [h1 id hnot]; simp
 | [], _ :: _, _, _, _, _, h, _, _ => h.elim
 | _ :: _, [], _, _, _, _, h, _, _ => by cases h
end
def C4 : List Prop → Prop
 | [] => True
 | p :: r => p ∧ C4 r
theorem C4.append {l m : List Prop} : C4 (l ++ m) ↔ C4 l ∧ C4 m := by
 induction l with
 | nil => simp [C4]
 | cons p r ih => simp [C4, ih, and_assoc]
def aZ0 (P : Program) (t : TypeId) : Option Bool :=
 match P.underlying t with
 | some (.struct _) => some true
 | some (.array _ _) => some true
 | some _ => some false
 | none => none
def Z2 (P : Program) (t : TypeId) : Option Nat := (P.info? t).map (·.size)
def O1 (P : Program) (t : TypeId) : Option Value := (P.info? t).bind (·.zero)
def aG5 (P : Program) (t : TypeId) (f : Nat) : Option (Nat × TypeId) :=
 match P.underlying t with
 | some (.struct fs) => (fs[f]?).map fun f => (f.offset, f.type)
 | _ => none
def aa9 (P : Program) (t : TypeId) : Option TypeId :=
 match P.underlying t with
 | some (.slice e) => some e
 | _ => none
theorem am9 {P : Program} {t : TypeId} {b : Bool} (h : aZ0 P t = some b) (w : World) : (isAgg t).run P w = .ok b w := by
 unfold aZ0 at h
 unfold isAgg
 cases hu : P.underlying t with
 | none => rw [hu] at h; cases h
 | some d =>
  rw [Sem.run_bind, run_underlying hu]
  simp only [Result.andThen_ok]
  rw [hu] at h
  cases d <;> (simp at h; subst h; rfl)
theorem I9 {P : Program} {t : TypeId} {n : Nat} (h : Z2 P t = some n) (w : World) : (sizeOf t).run P w = .ok n w := by
 unfold Z2 at h
 obtain ⟨i, h1, h2⟩ := bW4.1 h
 simp [sizeOf, typeInfo, h1, h2]
theorem bk3 {P : Program} {t : TypeId} {v : Value} (h : O1 P t = some v) (w : World) : (zeroValue t).run P w = .ok v w := by
 unfold O1 at h
 cases hi : P.info? t with
 | none => rw [hi] at h; cases h
 | some i =>
  rw [hi] at h
  have h' : i.zero = some v := h
  simp [zeroValue, typeInfo, hi, h']
theorem bb6 {P : Program} {t : TypeId} {f off : Nat} {ft : TypeId} (h : aG5 P t f = some (off, ft)) : ∃ fs x, P.underlying t = some (.struct fs) ∧ fs[f]? = some x ∧ x.offset = off ∧ x.type = ft := by
 unfold aG5 at h
 cases hu : P.underlying t with
 | none => rw [hu] at h; cases h
 | some d =>
  rw [hu] at h
  cases d <;> first | cases h | skip
  rename_i fs
  obtain ⟨x, h1, h2⟩ := bW4.1 h
  cases h2
  exact ⟨fs, x, rfl, h1, rfl, rfl⟩
theorem aa1 {P : Program} {t e : TypeId} (h : aa9 P t = some e) : P.underlying t = some (.slice e) := by
 unfold aa9 at h
 cases hu : P.underlying t with
 | none => rw [hu] at h; cases h
 | some d =>
  rw [hu] at h
  cases d <;> first | (cases h; rfl) | cases h
def ev (tm : Nat → Option AV) : Operand → Option AV
 | .tmp t => tm t
 | .const v => some (.v v)
 | .global g => some (.v (.pointer (some ⟨g, 0, none⟩)))
 | .func f => some (.fn f [])
def bn7 (op : BinOp) : Value → Value → Option (Value × List Prop)
 | .int k a, .int k' b =>
  if k = k' then
   match op with
   | .add => some (.int k (a + b), [k.wrap (a + b) = a + b])
   | .sub => some (.int k (a - b), [k.wrap (a - b) = a - b])
   | .mul => some (.int k (a * b), [k.wrap (a * b) = a * b])
   | .quo => some (.int k (a.tdiv b), [b ≠ 0, k.wrap (a.tdiv b) = a.tdiv b])
   | .rem => some (.int k (a.tmod b), [b ≠ 0])
   | .and => some (.int k (k.wrap (BitVec.ofInt k.bits a &&& BitVec.ofInt k.bits b).toNat), [])
   | .or => some (.int k (k.wrap (BitVec.ofInt k.bits a ||| BitVec.ofInt k.bits b).toNat), [])
   | .xor => some (.int k (k.wrap (BitVec.ofInt k.bits a ^^^ BitVec.ofInt k.bits b).toNat), [])
   | .andNot => some (.int k (k.wrap (BitVec.ofInt k.bits a &&& ~~~(BitVec.ofInt k.bits b)).toNat), [])
   | .eql => some (.bool (a == b), [])
   | .neq => some (.bool (a != b), [])
   | .lss => some (.bool (a < b), [])
   | .leq => some (.bool (a ≤ b), [])
   | .gtr => some (.bool (a > b), [])
   | .geq => some (.bool (a ≥ b), [])
   | _ => none
  else none
 | .string a, .string b =>
  match op with
  | .add => some (.string (a ++ b), [((a.size + b.size : Nat) : Int) ≤ 9223372036854775807])
  | .eql => some (.bool (a.toList == b.toList), [])
  | .neq => some (.bool !(a.toList == b.toList), [])
  | _ => none
 | _, _ => none
theorem br4 {P : Program} {w : World} {op : BinOp} {t : TypeId} {a b r : Value} {obs : List Prop} {x y : Operand} (h : bn7 op a b = some (r, obs)) (ho : C4 obs) :
  ((do eqGuard op t x y a b; Go.binOp op t a b) : Sem Value).run P w = .ok r w := by
 have hg : (eqGuard op t x y a b).run P w = .ok () w := by
  unfold eqGuard
  cases a <;> cases b <;> first | (simp [bn7] at h; done) | (split <;> rfl)
 rw [Sem.run_bind, hg, Result.andThen_ok]
 cases a <;> cases b <;> first | (simp [bn7] at h; done) | skip
 ·rename_i k a k' b
  simp only [bn7] at h
  split at h
  ·rename_i hk
   subst hk
   cases op <;> simp only [reduceCtorEq] at h <;> first
    | (simp only [Option.some.injEq, Prod.mk.injEq] at h; obtain ⟨rfl, rfl⟩ := h; simp only [C4] at ho; simp [Go.binOp, Op.intArith, Op.intBits, Op.intCmp, Op.intDiv, ho]; done)
    | cases h
  ·cases h
 ·rename_i a b
  simp only [bn7] at h
  cases op <;> simp only [reduceCtorEq] at h <;> first
   | (simp only [Option.some.injEq, Prod.mk.injEq] at h; obtain ⟨rfl, rfl⟩ := h; simp only [C4] at ho; simp [Go.binOp, Op.stringOp, IntKind.max, IntKind.bits, IntKind.signed]; try (have := ho.1; omega); done)
   | cases h
def ar2 {α : Type} (ys : List α) (p : Nat) : List α → List α
 | [] => ys
 | u :: r => ar2 (ys.set p u) (p + 1) r
theorem AV.vals_set (ρ : Nat → Value) : ∀ (l : List AV) (i : Nat) (x : AV), AV.vals ρ (l.set i x) = (AV.vals ρ l).set i (x.val ρ)
 | [], i, x => by simp [AV.vals]
 | y :: r, 0, x => by simp [AV.vals]
 | y :: r, i + 1, x => by simp [AV.vals, AV.vals_set ρ r i x]
theorem AV.vals_setL (ρ : Nat → Value) : ∀ (us l : List AV) (p : Nat), AV.vals ρ (ar2 l p us) = setFrom (AV.vals ρ l) p (AV.vals ρ us)
 | [], l, p => by simp [ar2, AV.vals, setFrom]
 | u :: r, l, p => by simp only [ar2, AV.vals, setFrom]; rw [AV.vals_setL ρ r _ _, AV.vals_set]
theorem ab0 : ∀ (us ys : List Value) (p : Nat), p + us.length ≤ ys.length → setFrom ys p us = ys.take p ++ us ++ ys.drop (p + us.length)
 | [], ys, p, h => by simp [setFrom]
 | u :: r, ys, p, h => by
  simp only [bV6] at h
  simp only [setFrom]
  rw [ab0 r _ _ (by simp; omega), W3 _ _ _ (by omega), List.drop_set_of_lt (by omega)]
  simp [Nat.add_assoc, Nat.add_comm 1]
theorem aE5 : ∀ (l : List Value) (k off : Nat) (c : Array Value), (l.zipIdx k).foldl (fun cs (x : Value × Nat) => cs.setIfInBounds (off + x.2) x.1) c = (setFrom c.toList (off + k) l).toArray
 | [], k, off, c => by simp [setFrom]
 | a :: r, k, off, c => by
  simp only [List.zipIdx_cons, List.foldl_cons, setFrom]
  rw [aE5 r (k + 1) off]
  simp [Nat.add_assoc]
def AV.cells : AV → List AV
 | .agg l => l
 | x => [x]
def itD : It → Option D
 | .dat d => some d
 | .row _ d => some d
 | _ => none
def itB : It → Bool
 | .box _ => true
 | _ => false
def itT : It → Option D
 | .tree d => some d
 | _ => none
mutual
def okc (S : Nat → It) : AV → Bool
 | .v x => x.oneCell'
 | .ptr a _ => itB (S a)
 | .ea a _ _ _ => (itD (S a)).isSome
 | .ref a => (itD (S a)).isSome
 | .fn _ l => aI2 S l
 | .bm _ l => ab4 S l
 | .tref a => (itT (S a)).isSome
 | .agg _ => false
 | .tup _ => false
def aI2 (S : Nat → It) : List AV → Bool
 | [] => true
 | x :: r => okc S x && aI2 S r
def ab4 (S : Nat → It) : List AV → Bool
 | [] => true
 | x :: r => (match x with | .agg l => aI2 S l | y => okc S y) && ab4 S r
end
def aC1 (S : Nat → It) (x : AV) : Bool := match x with
 | .agg l => aI2 S l
 | x => okc S x
mutual
theorem N5 {S : Nat → It} {id : Nat} (hS : S id = .none) : ∀ {x : AV}, okc S x = true → id ∉ x.ids
 | .v _, _ => by simp [AV.ids]
 | .ptr a _, h => by
  simp only [AV.ids, bY7]
  intro e; subst e; simp [okc, hS, itB] at h
 | .ea a _ _ _, h => by
  simp only [AV.ids, bY7]
  intro e; subst e; simp [okc, hS, itD] at h
 | .ref a, h => by
  simp only [AV.ids, bY7]
  intro e; subst e; simp [okc, hS, itD] at h
 | .fn _ l, h => au8 hS (by simpa [okc] using h)
 | .bm _ l, h => T7 hS (by simpa [okc] using h)
 | .tref a, h => by
  simp only [AV.ids, bY7]
  intro e; subst e; simp [okc, hS, itT] at h
 | .agg _, h => by simp [okc] at h
 | .tup _, h => by simp [okc] at h
theorem au8 {S : Nat → It} {id : Nat} (hS : S id = .none) : ∀ {l : List AV}, aI2 S l = true → id ∉ AV.idsL l
 | [], _ => by simp [AV.idsL]
 | x :: r, h => by
  simp only [aI2, bV8] at h
  simp only [AV.idsL, bY5, not_or]
  exact ⟨N5 hS h.1, au8 hS h.2⟩
theorem T7 {S : Nat → It} {id : Nat} (hS : S id = .none) : ∀ {l : List AV}, ab4 S l = true → id ∉ AV.idsL l
 | [], _ => by simp [AV.idsL]
 | .agg l :: r, h => by
  simp only [ab4, bV8] at h
  simp only [AV.idsL, AV.ids, bY5, not_or]
  exact ⟨au8 hS h.1, T7 hS h.2⟩
 | .v x :: r, h => by
  simp only [ab4, bV8] at h
  simp only [AV.idsL, bY5, not_or]
  exact ⟨N5 hS h.1, T7 hS h.2⟩
 | .ptr a b :: r, h => by
  simp only [ab4, bV8] at h
  simp only [AV.idsL, bY5, not_or]
  exact ⟨N5 hS h.1, T7 hS h.2⟩
 | .ea a b c d :: r, h => by
  simp only [ab4, bV8] at h
  simp only [AV.idsL, bY5, not_or]
  exact ⟨N5 hS h.1, T7 hS h.2⟩
 | .ref a :: r, h => by
  simp only [ab4, bV8] at h
  simp only [AV.idsL, bY5, not_or]
  exact ⟨N5 hS h.1, T7 hS h.2⟩
 | .tup l :: r, h => by
  simp only [ab4, bV8] at h
  simp [okc] at h
 | .fn f l :: r, h => by
  simp only [ab4, bV8] at h
  simp only [AV.idsL, bY5, not_or]
  exact ⟨N5 hS h.1, T7 hS h.2⟩
 | .bm f l :: r, h => by
  simp only [ab4, bV8] at h
  simp only [AV.idsL, bY5, not_or]
  exact ⟨N5 hS h.1, T7 hS h.2⟩
 | .tref a :: r, h => by
  simp only [ab4, bV8] at h
  simp only [AV.idsL, bY5, not_or]
  exact ⟨N5 hS h.1, T7 hS h.2⟩
end
theorem bs3 {S : Nat → It} {id : Nat} (hS : S id = .none) {x : AV} (h : aC1 S x = true) : id ∉ AV.idsL x.cells := by
 cases x with
 | agg l => exact au8 hS h
 | v y => simp [AV.cells, AV.idsL, AV.ids]
 | ptr a b => have := N5 hS (x := .ptr a b) h; simpa [AV.cells, AV.idsL] using this
 | ea a b c d => have := N5 hS (x := .ea a b c d) h; simpa [AV.cells, AV.idsL] using this
 | ref a => have := N5 hS (x := .ref a) h; simpa [AV.cells, AV.idsL] using this
 | fn a b => have := N5 hS (x := .fn a b) h; simpa [AV.cells, AV.idsL] using this
 | bm a b => have := N5 hS (x := .bm a b) h; simpa [AV.cells, AV.idsL] using this
 | tref a => have := N5 hS (x := .tref a) h; simpa [AV.cells, AV.idsL] using this
 | tup l => cases h
section
variable {P : Program} {ι : Type} {φ ψ : Nat → Prop} {w0 w w' : World} {F : ι → Rs} {ρ : Nat → Value} {S : Nat → It}
theorem s7.datAt (M : s7 φ ψ w0 w (v9 F ρ S)) {id : Nat} {d : D} (h : S id = .dat d) : RD w (FrF φ (v9 F ρ S)) d (ρ id) := by
 have := M.holds (.inr id)
 simp only [v9, h, It.res] at this
 exact this.2
theorem s7.rowAt (M : s7 φ ψ w0 w (v9 F ρ S)) {id : Nat} {e : TypeId} {d : D} (h : S id = .row e d) : ∃ xs, w.ownsRow 0 e d.sz (ρ id) d.len xs ∧ RW w (FrF φ (v9 F ρ S)) d xs := by
 have := M.holds (.inr id)
 simp only [v9, h, It.res] at this
 exact this.2
theorem s7.boxAt (M : s7 φ ψ w0 w (v9 F ρ S)) {id : Nat} {cs : List AV} (h : S id = .box cs) : Blk w (Y9 (ρ id)) (AV.vals ρ cs) := by
 have := M.holds (.inr id)
 simp only [v9, h, It.res] at this
 exact this
theorem s7.sliceAt (M : s7 φ ψ w0 w (v9 F ρ S)) {id : Nat} {d : D} (h : itD (S id) = some d) : ∃ a cap, ρ id = .slice a d.len cap ∧ d.len ≤ cap ∧ cap ≤ maxLen ∧
  ∀ i, i < d.len → ∃ b off, a = some ⟨b, off, none⟩ ∧ ∀ j x, (d.elem i)[j]? = some x → ∃ u, w.cell? ⟨b, off + (i * d.sz + j), none⟩ = some u ∧ XH w (FrF φ (v9 F ρ S)) x u := by
 cases hS : S id with
 | dat d' =>
  rw [hS] at h; cases h
  obtain ⟨a, cap, h1, h2, h3, h4⟩ := (M.datAt hS).open
  exact ⟨a, cap, h1, h2, h3, fun i hi => let ⟨b, off, e, _, _, hc⟩ := h4 i hi; ⟨b, off, e, hc⟩⟩
 | row e d' =>
  rw [hS] at h; cases h
  obtain ⟨xs, h1, h2⟩ := M.rowAt hS
  obtain ⟨_, a, cap, hv, k1, k2, k3⟩ := ab1 h1
  refine ⟨a, cap, hv, k1, k2, fun i hi => ?_⟩
  obtain ⟨b, off, e, _, hc⟩ := k3 (by omega)
  exact ⟨b, off, e, fun j x hx => let ⟨u, hu, hh⟩ := h2 i hi j x hx; ⟨u, hc _ u hu, hh⟩⟩
 | none => rw [hS] at h; cases h
 | dead => rw [hS] at h; cases h
 | box cs => rw [hS] at h; cases h
 | tree d => rw [hS] at h; cases h
 | kept e d => rw [hS] at h; cases h
theorem s7.treeAt (M : s7 φ ψ w0 w (v9 F ρ S)) {id : Nat} {d : D} (h : itT (S id) = some d) : G9 w (G7 (ρ id)) d (I8 (ρ id)) ∧ ∀ b, G7 (ρ id) b → b < w.heap.size := by
 have hS : S id = .tree d := by
  cases hx : S id <;> rw [hx] at h <;> simp [itT] at h
  rw [h]
 have := M.holds (.inr id)
 simp only [v9, hS, It.res] at this
 exact ⟨this.2.1, this.2.2⟩
theorem aG6 {S : Nat → Prop} {d : D} {v : Value} (h : G9 w S d v) : ∃ a cap, v = .slice a d.len cap := by
 obtain ⟨e, xs, S', h0, h1, h2, h3, h4⟩ := h
 rcases h1.2 with ⟨hv, hn⟩ | ⟨g, cap, cur, hv, _⟩
 ·exact ⟨none, 0, by rw [hv, hn]⟩
 ·exact ⟨_, cap, hv⟩
theorem bf4 (M : s7 φ ψ w0 w (v9 F ρ S)) {x : AV} (h : okc S x = true) : (x.val ρ).oneCell' = true := by
 cases x with
 | v x => exact h
 | ref id =>
  obtain ⟨d, hd⟩ := bZ4.1 (show (itD (S id)).isSome = true from h)
  obtain ⟨a, cap, e, _⟩ := M.sliceAt hd
  simp only [AV.val]; rw [e]; rfl
 | tref id =>
  obtain ⟨d, hd⟩ := bZ4.1 (show (itT (S id)).isSome = true from h)
  obtain ⟨a, cap, e⟩ := aG6 (M.treeAt hd).1
  simp only [AV.val]; rw [e]; rfl
 | agg l => cases h
 | tup l => cases h
 | _ => rfl
theorem bf5 (M : s7 φ ψ w0 w (v9 F ρ S)) : ∀ {l : List AV}, aI2 S l = true → ∀ u ∈ AV.vals ρ l, u.oneCell' = true
 | [], _, u, hu => by simp [AV.vals] at hu
 | x :: r, h, u, hu => by
  simp only [aI2, bV8] at h
  simp only [AV.vals, bZ6] at hu
  rcases hu with rfl | hu
  ·exact bf4 M h.1
  ·exact bf5 M h.2 u hu
theorem aX2 {u : Value} (h : u.oneCell' = true) : u.cells = #[u] := by
 cases u <;> first | rfl | cases h
theorem ab3 (M : s7 φ ψ w0 w (v9 F ρ S)) {x : AV} (h : okc S x = true) (hx : x.cells = [x]) : (x.val ρ).cells = (AV.vals ρ x.cells).toArray ∧ ∀ u ∈ AV.vals ρ x.cells, u.oneCell' = true := by
 have h1 := bf4 M h
 rw [hx]
 refine ⟨?_, ?_⟩
 ·rw [aX2 h1]; rfl
 ·intro u hu
  simp only [AV.vals, bY7] at hu
  subst hu; exact h1
theorem ab2 (M : s7 φ ψ w0 w (v9 F ρ S)) {x : AV} (h : aC1 S x = true) : (x.val ρ).cells = (AV.vals ρ x.cells).toArray ∧ ∀ u ∈ AV.vals ρ x.cells, u.oneCell' = true := by
 cases x with
 | agg l => exact ⟨rfl, bf5 M h⟩
 | v y => exact ab3 M (x := .v y) h rfl
 | ptr a b => exact ab3 M (x := .ptr a b) h rfl
 | ea a b c d => exact ab3 M (x := .ea a b c d) h rfl
 | ref a => exact ab3 M (x := .ref a) h rfl
 | fn a b => exact ab3 M (x := .fn a b) h rfl
 | bm a b => exact ab3 M (x := .bm a b) h rfl
 | tref a => exact ab3 M (x := .tref a) h rfl
 | tup l => cases h
def a41 (P : Program) (t : TypeId) (S : Nat → It) (e : Operand → Option AV) : List AV → List (Nat × Operand) → Option (List AV)
 | cs, [] => some cs
 | cs, (i, x) :: r =>
  match aG5 P t i, e x with
  | some (off, ft), some v => if aC1 S v && decide (Z2 P ft = some v.cells.length) && decide (off + v.cells.length ≤ cs.length) then a41 P t S e (ar2 cs off v.cells) r else none
  | _, _ => none
theorem bh2 (M : s7 φ ψ w0 w (v9 F ρ S)) {t : TypeId} {fs : Array Field} (hu : P.underlying t = some (.struct fs)) {e : Operand → Option AV} {g : Operand → Value} {places : Array (Nat × Nat)}
  (hp : ∀ i off ft n, aG5 P t i = some (off, ft) → Z2 P ft = some n → places[i]? = some (off, n)) :
  ∀ (parts : List (Nat × Operand)) (cs r : List AV), (∀ p ∈ parts, ∀ v, e p.2 = some v → g p.2 = v.val ρ) → a41 P t S e cs parts = some r → Instr.fill (places[·]?) (AV.vals ρ cs).toArray (parts.map fun p => (p.1, g p.2)) = some (AV.vals ρ r).toArray
 | [], cs, r, _, h => by simp only [a41, Option.some.injEq] at h; subst h; rfl
 | (i, x) :: rest, cs, r, hg, h => by
  simp only [a41] at h
  split at h
  ·rename_i off ft v h1 h2
   split at h
   ·rename_i hc
    simp only [bV8, decide_eq_true_eq] at hc
    obtain ⟨⟨k1, k2⟩, k3⟩ := hc
    have hv := hg (i, x) bX6 v h2
    simp only at hv
    obtain ⟨c1, _⟩ := ab2 M k1
    simp only [bY9, Instr.fill]
    rw [hp i off ft _ h1 k2, hv, c1]
    simp only [List.size_toArray, AV.vals_length]
    have : ¬ off + v.cells.length > cs.length := by omega
    simp only [ne_eq, not_true_eq_false, decide_false, Bool.false_or, decide_eq_true_eq, this, if_false]
    have ih := bh2 M hu hp rest (ar2 cs off v.cells) r (fun p hp' => hg p (bX9 _ hp')) h
    rw [AV.vals_setL] at ih
    rw [← ih]
    congr 1
    have hz := aE5 (AV.vals ρ v.cells) 0 off (AV.vals ρ cs).toArray
    simp only [bZ5] at hz
    rw [← hz]
    simp [Array.zipIdx, ← Array.foldl_toList, List.mapIdx_eq_zipIdx_map]
   ·cases h
  ·cases h
end
def D.sub : D → Nat → Nat → D
 | .ints x, l, h => .ints ((x.take h).drop l)
 | .bools x, l, h => .bools ((x.take h).drop l)
 | .bytes x, l, h => .bytes ((x.take h).drop l)
 | .strs x, l, h => .strs ((x.take h).drop l)
 | .instrs x, l, h => .instrs ((x.take h).drop l)
 | .events x, l, h => .events ((x.take h).drop l)
 | .rows x, l, h => .rows ((x.take h).drop l)
 | .brows x, l, h => .brows ((x.take h).drop l)
 | .exprs x, l, h => .exprs ((x.take h).drop l)
 | .stmts x, l, h => .stmts ((x.take h).drop l)
def bg7 (P : Program) (t : TypeId) : Bool := match P.underlying t with
 | some .bool => true
 | _ => false
def bM9 (P : Program) (t : TypeId) (op : BinOp) : Value → Value → Option (Value × List Prop)
 | .bool x, .bool y => if bg7 P t then match op with
   | .eql => some (.bool (x == y), [])
   | .neq => some (.bool !(x == y), [])
   | _ => none
  else none
 | a, c => bn7 op a c
theorem br3 {P : Program} {w : World} {op : BinOp} {t : TypeId} {a b r : Value} {obs : List Prop} {x y : Operand} (h : bM9 P t op a b = some (r, obs)) (ho : C4 obs) :
  ((do eqGuard op t x y a b; Go.binOp op t a b) : Sem Value).run P w = .ok r w := by
 unfold bM9 at h
 split at h
 ·rename_i x1 y1
  have hg : (eqGuard op t x y (.bool x1) (.bool y1)).run P w = .ok () w := by
   unfold eqGuard
   split <;> rfl
  rw [Sem.run_bind, hg, Result.andThen_ok]
  split at h
  ·rename_i hb
   have hu : P.underlying t = some .bool := by
    unfold bg7 at hb
    split at hb
    ·assumption
    ·cases hb
   split at h <;> first | cases h | skip
   ·exact run_eql_bool w t x1 y1 hu
   ·exact run_neq_bool w t x1 y1 hu
  ·cases h
 ·exact br4 h ho
def ad5 (P : Program) (e : Operand → Option AV) (S : Nat → It) : Op → Option (AV × List Prop)
 | .move x => (e x).map fun r => (r, [])
 | .assign x => (e x).map fun r => (r, [])
 | .binOp b t x y _ => match e x, e y with
  | some (.v a), some (.v c) => (bM9 P t b a c).map fun r => (.v r.1, r.2)
  | _, _ => none
 | .unOp o _ x => match o, e x with
  | .not, some (.v (.bool b)) => some (.v (.bool !b), [])
  | .neg, some (.v (.int k n)) => some (.v (.int k (0 - n)), [k.wrap (0 - n) = 0 - n])
  | _, _ => none
 | .nilCheck x => match e x with
  | some (.ptr a b) => some (.ptr a b, [])
  | some (.ea a b c d) => some (.ea a b c d, [])
  | some (.fn a b) => some (.fn a b, [])
  | some (.bm a b) => some (.bm a b, [])
  | _ => none
 | .fieldAddr s x f => match aG5 P s f, e x with
  | some (off, ft), some (.ptr a b) => if (Z2 P ft).any (0 < ·) then some (.ptr a (b + off), []) else none
  | some (off, ft), some (.ea a b c d) => if (Z2 P ft).any (0 < ·) then some (.ea a b (c + off) d, []) else none
  | _, _ => none
 | .field s x f => match aG5 P s f, e x with
  | some (off, ft), some (.agg l) =>
   match aZ0 P ft, Z2 P ft with
   | some true, some n => some (.agg ((l.drop off).take n), [])
   | some false, _ => (l[off]?).map fun r => (r, [])
   | _, _ => none
  | _, _ => none
 | .extract x i => match e x with
  | some (.tup l) => (l[i]?).map fun r => (r, [])
  | _ => none
 | .indexAddr t x ix => match e x, e ix with
  | some (.ref id), some (.v (.int _ i)) =>
   match itD (S id), (aa9 P t).bind (Z2 P) with
   | some d, some n => if n = d.sz then some (.ea id i.toNat 0 d.sz, [0 ≤ i, i < (d.len : Int)]) else none
   | _, _ => none
  | some (.tref id), some (.v (.int _ i)) =>
   match itT (S id), (aa9 P t).bind (Z2 P) with
   | some d, some n => if n = d.sz then some (.ea id i.toNat 0 d.sz, [0 ≤ i, i < (d.len : Int)]) else none
   | _, _ => none
  | _, _ => none
 | .index t x ix => match e x, e ix with
  | some (.v (.string s)), some (.v (.int _ i)) =>
   match P.underlying t with
   | some .string => some (.v (.int .u8 ((s.data.toList.getD i.toNat 0).toNat : Int)), [0 ≤ i, i < (s.size : Int)])
   | _ => none
  | _, _ => none
 | .convert s d x => match e x with
  | some (.v (.int _ n)) =>
   match (P.underlying s).isSome, P.underlying d with
   | true, some (.int k) => some (.v (.int k n), [k.wrap n = n])
   | _, _ => none
  | some (.v (.string x)) =>
   match (P.underlying s).isSome, P.underlying d with
   | true, some .string => some (.v (.string x), [])
   | _, _ => none
  | _ => none
 | .makeFunc (.func f) first cap =>
  if first.isEmpty then (cap.toList.mapM e).map fun l => (.fn f l, []) else if cap.isEmpty then (first.toList.mapM e).map fun l => (.bm f l, []) else none
 | .build t parts =>
  match O1 P t, P.underlying t with
  | some z, some (.struct fs) =>
   match fs.toList.mapM (fun f => (P.info? f.type).map fun i => (f.offset, i.size)) with
   | some _ => (a41 P t S e (z.cells.toList.map .v) parts.toList).map fun l => (.agg l, [])
   | none => none
  | _, _ => none
 | .call { callee := .builtin .len, args, argTypes } =>
  match args.toList, argTypes.toList with
  | [x], [t] => match e x, P.underlying t with
   | some (.ref id), some (.slice _) => (itD (S id)).map fun d => (.v (.int .i64 d.len), [])
   | some (.v (.slice _ n _)), some (.slice _) => some (.v (.int .i64 n), [])
   | some (.v (.string s)), some .string => some (.v (.int .i64 s.size), [])
   | some (.tref id), some (.slice _) => (itT (S id)).map fun d => (.v (.int .i64 d.len), [])
   | _, _ => none
  | _, _ => none
 | _ => none
section
variable {P : Program} {ι : Type} {φ ψ : Nat → Prop} {w0 w w' : World} {F : ι → Rs} {ρ : Nat → Value} {S : Nat → It}
theorem bw6 (n m : Nat) (v : Value) : (if m = 0 then aK9 n v else (⟨(aK9 n v).block, (aK9 n v).off + m, none⟩ : Addr)) = aK9 (n + m) v := by
 unfold aK9
 split
 ·rename_i h0
  subst h0
  split <;> simp
 ·split <;> simp [Nat.add_assoc]
theorem a24 {α β : Type} {f : α → Option β} : ∀ {l : List α} {r : List β}, l.mapM f = some r → ∀ {i : Nat} {x : α} {y : β}, l[i]? = some x → f x = some y → r[i]? = some y
 | [], _, _, _, _, _, hx, _ => by simp at hx
 | a :: l, r, h, i, x, y, hx, hy => by
  rw [List.mapM_cons] at h
  cases ha : f a with
  | none => rw [ha] at h; simp at h
  | some b =>
   cases hr : l.mapM f with
   | none => rw [ha, hr] at h; simp at h
   | some m =>
    rw [ha, hr] at h
    simp at h; subst h
    cases i with
    | zero => simp at hx; subst hx; rw [ha] at hy; cases hy; rfl
    | succ i => simpa using a24 hr (by simpa using hx) hy
theorem ad1 (ρ : Nat → Value) : ∀ (z : List Value), AV.vals ρ (z.map .v) = z
 | [] => rfl
 | a :: r => by simp only [bY9, AV.vals, AV.val]; rw [ad1 ρ r]
theorem an2 {e : Operand → Option AV} {g : Operand → Value} : ∀ {xs : List Operand} {l : List AV}, (∀ x ∈ xs, ∀ v, e x = some v → g x = v.val ρ) → xs.mapM e = some l → xs.map g = AV.vals ρ l
 | [], l, _, h => by simp at h; subst h; rfl
 | x :: r, l, hg, h => by
  rw [List.mapM_cons] at h
  cases hx : e x with
  | none => rw [hx] at h; simp at h
  | some v =>
   cases hr : r.mapM e with
   | none => rw [hx, hr] at h; simp at h
   | some m =>
    rw [hx, hr] at h
    simp at h; subst h
    simp only [bY9, AV.vals]
    rw [hg x bX6 v hx, an2 (fun y hy => hg y (bX9 _ hy)) hr]
theorem bA4 (M : s7 φ ψ w0 w (v9 F ρ S)) {o : Oper} {e : Operand → Option AV} {g : Operand → Value} (hg : ∀ x ∈ o.op.operands, ∀ v, e x = some v → g x = v.val ρ) {r : AV} {obs : List Prop} (h : ad5 P e S o.op = some (r, obs)) (ho : C4 obs) :
  (execOp g o).run P w = .ok (.value (r.val ρ)) w := by
 unfold execOp
 generalize o.op = op at *
 cases op <;> simp only [ad5] at h <;> first | cases h | skip
 case move x =>
  obtain ⟨v, h1, h2⟩ := bW4.1 h
  cases h2
  simp [hg x (by simp [Op.operands]) _ h1]
 case assign x =>
  obtain ⟨v, h1, h2⟩ := bW4.1 h
  cases h2
  simp [hg x (by simp [Op.operands]) _ h1]
 case binOp b t x y t' =>
  split at h
  ·rename_i a c h1 h2
   obtain ⟨v, h3, h4⟩ := bW4.1 h
   cases h4
   have hx := hg x (by simp [Op.operands]) _ h1
   have hy := hg y (by simp [Op.operands]) _ h2
   simp only [AV.val] at hx hy
   have hr := br3 (P := P) (w := w) (t := t) (x := x) (y := y) (r := v.1) (obs := v.2) h3 ho
   simp only [hx, hy]
   rw [Sem.run_bind, hr]; rfl
  ·cases h
 case unOp b t x =>
  split at h <;> first | cases h | skip
  ·rename_i b h1
   simp [hg x (by simp [Op.operands]) _ h1, AV.val, Op.unary]
  ·rename_i k n h1
   simp only [C4] at ho
   have ho1 := ho.1
   simp only [Int.zero_sub] at ho1
   simp [hg x (by simp [Op.operands]) _ h1, AV.val, Op.unary, Op.intArith, ho1]
 case nilCheck x =>
  split at h <;> first | cases h | skip
  ·rename_i a b h1
   simp [hg x (by simp [Op.operands]) _ h1, AV.val]
  ·rename_i a b c d h1
   simp [hg x (by simp [Op.operands]) _ h1, AV.val]
  ·rename_i a b h1
   simp [hg x (by simp [Op.operands]) _ h1, AV.val]
  ·rename_i a b h1
   simp [hg x (by simp [Op.operands]) _ h1, AV.val]
 case fieldAddr s x f =>
  have key : ∀ (a : Addr) (off : Nat) (ft : TypeId), aG5 P s f = some (off, ft) → (Z2 P ft).any (0 < ·) = true → (Instr.fieldAt s (.pointer (some a)) f).run P w = .ok (.pointer (some (a.add off))) w := by
   intro a off ft h1 h2
   obtain ⟨fs, y, k1, k2, k3, k4⟩ := bb6 h1
   cases hn : Z2 P ft with
   | none => rw [hn] at h2; cases h2
   | some n =>
    rw [hn] at h2
    simp at h2
    subst k4
    simp [Instr.fieldAt, run_underlying k1, k2, Instr.sureAddr, fieldPlace, I9 hn, k3]
    intro h0; omega
  split at h
  ·rename_i off ft a b h1 h2
   split at h
   ·rename_i hs
    cases h
    simp only [hg x (by simp [Op.operands]) _ h2, AV.val]
    rw [Sem.run_bind, key _ _ _ h1 hs]
    simp only [Result.andThen_ok, Sem.run_pure, Addr.add]
    split
    ·rename_i h0; subst h0; rfl
    ·rfl
   ·cases h
  ·rename_i off ft a b c d h1 h2
   split at h
   ·rename_i hs
    cases h
    simp only [hg x (by simp [Op.operands]) _ h2, AV.val]
    rw [Sem.run_bind, key _ _ _ h1 hs]
    simp only [Result.andThen_ok, Sem.run_pure, Addr.add]
    rw [bw6, Nat.add_assoc]
   ·cases h
  ·cases h
 case field s x f =>
  split at h <;> first | cases h | skip
  rename_i off ft l h1 h2
  obtain ⟨fs, y, k1, k2, k3, k4⟩ := bb6 h1
  subst k3; subst k4
  have hx := hg x (by simp [Op.operands]) _ h2
  simp only [AV.val] at hx
  split at h <;> first | cases h | skip
  ·rename_i n h3 h4
   simp [Instr.field, run_underlying k1, k2, hx, asAgg, part, am9 h3, I9 h4, AV.val, AV.vals_take, AV.vals_drop, List.take_drop]
  ·rename_i z h3
   obtain ⟨v, h5, h6⟩ := bW4.1 h
   cases h6
   simp [Instr.field, run_underlying k1, k2, hx, asAgg, part, am9 h3, AV.vals_get, h5]
 case extract x i =>
  split at h <;> first | cases h | skip
  rename_i l h1
  obtain ⟨v, h2, h3⟩ := bW4.1 h
  cases h3
  simp [Instr.extract, hg x (by simp [Op.operands]) _ h1, AV.val, AV.vals_get, h2]
 case indexAddr t x ix =>
  split at h <;> first | cases h | skip
  ·rename_i id k i h1 h2
   split at h <;> first | cases h | skip
   rename_i d n h3 h4
   split at h <;> first | cases h | skip
   rename_i hn
   subst hn
   simp only [C4] at ho
   obtain ⟨e', h5, h6⟩ := Option.bind_eq_some_iff.1 h4
   obtain ⟨a, cap, hr, _, _, hc⟩ := M.sliceAt h3
   obtain ⟨b, off, rfl, _⟩ := hc i.toNat (by omega)
   have hx := hg x (by simp [Op.operands]) _ h1
   have hi := hg ix (by simp [Op.operands]) _ h2
   simp only [AV.val] at hx hi
   rw [hr] at hx
   simp [Instr.indexAt, hx, hi, asIntOf, run_underlying (aa1 h5), I9 h6, ho.1, ho.2.1, AV.val, hr, I8, aK9, Addr.add]
  ·rename_i id k i h1 h2
   split at h <;> first | cases h | skip
   rename_i d n h3 h4
   split at h <;> first | cases h | skip
   rename_i hn
   subst hn
   simp only [C4] at ho
   obtain ⟨e', h5, h6⟩ := Option.bind_eq_some_iff.1 h4
   obtain ⟨e2, xs, S', _, k1, _⟩ := (M.treeAt h3).1
   rcases k1.2 with ⟨_, k2⟩ | ⟨b, cap, cur, hr, _⟩
   ·exfalso; omega
   have hx := hg x (by simp [Op.operands]) _ h1
   have hi := hg ix (by simp [Op.operands]) _ h2
   simp only [AV.val] at hx hi
   rw [hr] at hx
   simp [Instr.indexAt, hx, hi, asIntOf, run_underlying (aa1 h5), I9 h6, ho.1, ho.2.1, AV.val, hr, aK9, Addr.add]
   intro h0; exact h0.symm
 case index t x ix =>
  split at h <;> first | cases h | skip
  rename_i s k i h1 h2
  split at h <;> first | cases h | skip
  rename_i h3
  simp only [C4] at ho
  have hx := hg x (by simp [Op.operands]) _ h1
  have hi := hg ix (by simp [Op.operands]) _ h2
  simp only [AV.val] at hx hi
  have hlt : i.toNat < s.size := by omega
  simp [Instr.index, hx, hi, asIntOf, run_underlying h3, ho.1, AV.val, hlt]
  rfl
 case convert s d x =>
  split at h <;> first | cases h | skip
  ·rename_i k n h1
   split at h <;> first | cases h | skip
   rename_i k' h2 h3
   simp only [C4] at ho
   obtain ⟨ds, hds⟩ := bZ4.1 h2
   have hx := hg x (by simp [Op.operands]) _ h1
   simp only [AV.val] at hx
   cases ds <;> simp [convert, hx, run_underlying hds, run_underlying h3, Conv.intToInt, ho.1, AV.val]
  ·rename_i str h1
   split at h <;> first | cases h | skip
   rename_i h2 h3
   obtain ⟨ds, hds⟩ := bZ4.1 h2
   have hx := hg x (by simp [Op.operands]) _ h1
   simp only [AV.val] at hx
   cases ds <;> simp [convert, hx, run_underlying hds, run_underlying h3, AV.val]
 case makeFunc fn first cap =>
  cases fn <;> simp only [ad5] at h <;> first | cases h | skip
  rename_i f
  split at h
  ·rename_i hf
   obtain ⟨l, h1, h2⟩ := bW4.1 h
   cases h2
   have hf' : first = #[] := by simpa using hf
   subst hf'
   have := an2 (ρ := ρ) (g := g) (fun x hx v hv => hg x (by simp [Op.operands]; simpa using hx) v hv) h1
   simp only [Instr.makeFunc, AV.val, ← this]
   have : Array.map g cap = (List.map g cap.toList).toArray := by apply Array.ext'; simp
   simp [this]
  split at h <;> first | cases h | skip
  rename_i hf
  obtain ⟨l, h1, h2⟩ := bW4.1 h
  cases h2
  have hf' : cap = #[] := by simpa using hf
  subst hf'
  have := an2 (ρ := ρ) (g := g) (fun x hx v hv => hg x (by simp [Op.operands]; simpa using hx) v hv) h1
  simp only [Instr.makeFunc, AV.val, ← this]
  have : Array.map g first = (List.map g first.toList).toArray := by apply Array.ext'; simp
  simp [this]
 case build t parts =>
  split at h <;> first | cases h | skip
  rename_i z fs h1 h2
  split at h <;> first | cases h | skip
  rename_i places hpl
  obtain ⟨l, h3, h4⟩ := bW4.1 h
  cases h4
  obtain ⟨it, hit, hz⟩ : ∃ it, P.info? t = some it ∧ it.zero = some z := by
   unfold O1 at h1
   exact Option.bind_eq_some_iff.1 h1
  have hb : P.built t (parts.map fun (i, x) => (i, g x)).toList = some (AV.vals ρ l).toArray := by
   unfold Program.built
   simp only [hit, h2, hz, hpl]
   have h5 := bh2 M h2 (e := e) (g := g) (places := places.toArray) (fun i off ft n k1 k2 => by
    obtain ⟨fs', x, m1, m2, m3, m4⟩ := bb6 k1
    rw [h2] at m1; cases m1
    obtain ⟨y, n1, n2⟩ := bW4.1 k2
    have := a24 hpl (i := i) (x := x) (y := (off, n)) (by simpa using m2) (by simp [m4, n1, m3, n2])
    simpa using this) parts.toList _ l (fun p hp v hv => hg p.2 (by simp [Op.operands]; exact ⟨p.1, by simpa using hp⟩) v hv) h3
   rw [ad1] at h5
   rw [← h5]
   simp
  rw [Sem.run_bind, run_build w t _ _ hb]
  simp [AV.val]
 case call c =>
  obtain ⟨callee, args, argTypes⟩ := c
  cases callee <;> (try simp only [ad5] at h) <;> first | cases h | skip
  rename_i b
  cases b <;> (try simp only [ad5] at h) <;> first | cases h | skip
  split at h <;> first | cases h | skip
  rename_i x t hx ht
  have hx' : args = #[x] := by apply Array.ext'; simpa using hx
  have ht' : argTypes = #[t] := by apply Array.ext'; simpa using ht
  subst hx'; subst ht'
  split at h <;> first | cases h | skip
  ·rename_i id e' h1 h2
   obtain ⟨d, h3, h4⟩ := bW4.1 h
   cases h4
   obtain ⟨a, cap, hr, _⟩ := M.sliceAt h3
   have hxx := hg x (by simp [Op.operands, Call.operands]) _ h1
   simp only [AV.val] at hxx
   rw [hr] at hxx
   simp [resolve, invoke, builtin, hxx, Builtin.len_, run_underlying h2, AV.val, goInt]
  ·rename_i a n cap e' h1 h2
   have hxx := hg x (by simp [Op.operands, Call.operands]) _ h1
   simp only [AV.val] at hxx
   simp [resolve, invoke, builtin, hxx, Builtin.len_, run_underlying h2, AV.val, goInt]
  ·rename_i str h1 h2
   have hxx := hg x (by simp [Op.operands, Call.operands]) _ h1
   simp only [AV.val] at hxx
   simp [resolve, invoke, builtin, hxx, Builtin.len_, run_underlying h2, AV.val, goInt]
  ·rename_i id e' h1 h2
   obtain ⟨d, h3, h4⟩ := bW4.1 h
   cases h4
   obtain ⟨a, cap, hr⟩ := aG6 (M.treeAt h3).1
   have hxx := hg x (by simp [Op.operands, Call.operands]) _ h1
   simp only [AV.val] at hxx
   rw [hr] at hxx
   simp [resolve, invoke, builtin, hxx, Builtin.len_, run_underlying h2, AV.val, goInt]
end
theorem aO3 (ks : List b5) (k : Nat) : s6 ks = s6 (ks.take k) + s6 (ks.drop k) := by
 have := O2 (ks.take k) (ks.drop k)
 rwa [List.take_append_drop] at this
theorem L6 {ks : List b5} {k : Nat} (h : k < ks.length) : s6 (ks.take (k + 1)) = s6 (ks.take k) + (1 + t2 ks[k]) := by
 rw [m8 _ _ h, O2]
 simp [s6]
theorem bj4 (ks : List b6) (k : Nat) : l8 ks = l8 (ks.take k) + l8 (ks.drop k) := by
 have := B3 (ks.take k) (ks.drop k)
 rwa [List.take_append_drop] at this
theorem ar0 {ks : List b6} {k : Nat} (h : k < ks.length) : l8 (ks.take (k + 1)) = l8 (ks.take k) + (1 + J4 ks[k]) := by
 rw [m8 _ _ h, B3]
 simp [l8]
def SzE (e : b5) : Prop := ∀ (φ : Nat → Prop) (v : Value) (m : Int) (w : World), K8 w φ v e → 0 ≤ m → m ≤ 1048576 →
 Calls Tryz.prog 200 #[v, .int .i64 m] w fun e' w' => e' = .returned (.int .i64 (L0 m (t2 e))) ∧ Below w.heap.size w w'
theorem a88 (ks : List b5) (ih : ∀ e ∈ ks, SzE e) (φ : Nat → Prop) (v : Value) (m : Int) (w : World) (h : t5 w φ v ks) (hm : 0 ≤ m) (hm2 : m ≤ 1048576) :
    Calls Tryz.prog 240 #[v, .int .i64 m] w fun e w' => e = .returned (.int .i64 (L0 m (s6 ks))) ∧ Below w.heap.size w w' := by
  obtain ⟨a, cap, rfl, -, hn, -, hc⟩ := h.open
  have hlen := P4 ks
  by_cases hlt : m < (ks.length : Int)
  · have hneg := show Hid (L0 m (s6 ks) = -1) from A7 (by omega)
    clear hc h hlen
    go_enter Tryz.func240, Tryz.ntmps240
    go_wp2
    go_ret
    exact ⟨C1 hneg.out.symm, Below.refl _ _⟩
  · have HC := show Hid _ from hc
    have HL := show Hid _ from hlen
    clear hc h hlen
    go_enter Tryz.func240, Tryz.ntmps240
    go_wp2
    go_loopw [1, 5] (fun l i wr => ∃ (k : Nat) (y : Int), k ≤ ks.length ∧ i = .int .i64 k ∧ l = .int .i64 y ∧ y = m - ks.length + k - s6 (ks.take k) ∧ 0 ≤ y ∧ Below w.heap.size w wr) (fun _ i _ => ks.length - (intOf i).toNat)
    case atStart => exact ⟨0, m - ks.length, bX5 _, rfl, rfl, by simp [s6], by omega, Below.refl _ _⟩
    case round =>
      obtain ⟨k, y, hk, rfl, rfl, hye, hy, hb⟩ := hrel
      have HY := show Hid _ from hye
      have HB := show Hid _ from hb
      have hy2 : y ≤ 1048576 := by have := L6 (ks := ks) (k := k); have : k ≤ s6 (ks.take k) := by have := P4 (ks.take k); rw [List.length_take] at this; omega
                                   omega
      clear hye hb
      by_cases hlk : k < ks.length
      · obtain ⟨b, off, kv, rfl, hbk, hf, c0, c1, c2, hkv⟩ := HC.out k hlk
        rw [← (ac7 HB.out).1 _ _ hbk] at c0 c1 c2
        have HE := show Hid (K8 wr φ (.agg #[.int .i64 ks[k].kind, .int .i64 ks[k].value, kv]) ks[k]) from ⟨kv, rfl, t5.nice _ _ _ _ _ _ (N2.below HB.out) hkv⟩
        clear hkv
        go_wp2_with fail
        refine (ih _ (bX2 hlk) φ _ y _ HE.out hy hy2).mono ?_
        rintro e w1 ⟨rfl, b1⟩
        have B1 := show Hid _ from HB.out.trans (b1.mono HB.out.size)
        by_cases hs : y < (t2 ks[k] : Int)
        · rw [A7 hs]
          have hneg := show Hid (L0 m (s6 ks) = -1) from by
            have h1 := aO3 ks (k + 1)
            have h2 := L6 hlk
            have h3 := P4 (ks.drop (k + 1))
            rw [List.length_drop] at h3
            have h4 := HY.out
            exact A7 (by omega)
          clear hs
          go_wp2_with fail
          go_ret
          exact ⟨C1 hneg.out.symm, B1.out⟩
        · rw [F0 hs]
          have hnn : ¬ (y - (t2 ks[k] : Int) < 0) := by omega
          have hlo : y - (t2 ks[k] : Int) ≤ 1048576 := by omega
          have HS := show Hid _ from hs
          clear hs
          go_wp2_with fail
          exact ⟨⟨k + 1, _, by omega, by go_num, rfl, by rw [HY.out, L6 hlk]; omega, by omega, B1.out⟩, by simp [intOf]; omega⟩
      · have hkn : k = ks.length := by omega
        subst hkn
        go_wp2_with fail
        go_ret
        exact ⟨C1 (by have h4 := HY.out; rw [bW5 (bW6 _)] at h4; rw [F0 (by omega), h4]; omega), HB.out⟩
theorem aH0 (e : b5) : SzE e := by
 refine b5.ind (P := SzE) (fun k n ks ih => ?_) e
 intro φ v m w h hm hm2
 obtain ⟨kv, rfl, hk⟩ := h
 have bx : Below w.heap.size w (w.alloc (.cells #[.int .i64 k, .int .i64 n, kv] 149)) := by go_grown
 have HS := show Hid (t2 ⟨k, n, ks⟩ = s6 ks) from rfl
 have hk1 := t5.nice _ _ _ _ _ _ (N2.below bx) hk
 have HK := show Hid _ from hk1
 have HB := show Hid _ from bx
 clear hk hk1 bx
 go_enter Tryz.func200, Tryz.ntmps200
 go_wp2_with fail
 refine (a88 ks ih φ kv m _ HK.out hm hm2).mono ?_
 rintro e w1 ⟨rfl, b1⟩
 have B1 := show Hid _ from HB.out.trans (b1.mono HB.out.size)
 by_cases hs : m < (s6 ks : Int)
 ·rw [A7 hs]
  go_wp2_with fail
  go_ret
  exact ⟨C1 (by rw [HS.out]; exact (A7 (by omega)).symm), B1.out⟩
 ·rw [F0 hs]
  have hnn : ¬ (m - (s6 ks : Int) < 0) := by omega
  have hlo : m - (s6 ks : Int) ≤ 1048576 := by omega
  go_wp2_with fail
  go_ret
  exact ⟨C1 (by rw [HS.out]; exact (F0 (by omega)).symm), B1.out⟩
def SzS (e : b6) : Prop := ∀ (φ : Nat → Prop) (v : Value) (m : Int) (w : World), Q1 w φ v e → 0 ≤ m → m ≤ 1048576 →
 Calls Tryz.prog 149 #[v, .int .i64 m] w fun e' w' => e' = .returned (.int .i64 (L0 m (J4 e))) ∧ Below w.heap.size w w'
theorem aq9 (ks : List b6) (ih : ∀ e ∈ ks, SzS e) (φ : Nat → Prop) (v : Value) (m : Int) (w : World) (h : t8 w φ v ks) (hm : 0 ≤ m) (hm2 : m ≤ 1048576) :
    Calls Tryz.prog 76 #[v, .int .i64 m] w fun e w' => e = .returned (.int .i64 (L0 m (l8 ks))) ∧ Below w.heap.size w w' := by
  obtain ⟨a, cap, rfl, -, hn, -, hc⟩ := h.open
  have hlen := D8 ks
  by_cases hlt : m < (ks.length : Int)
  · have hneg := show Hid (L0 m (l8 ks) = -1) from A7 (by omega)
    clear hc h hlen
    go_enter Tryz.func76, Tryz.ntmps76
    go_wp2
    go_ret
    exact ⟨C1 hneg.out.symm, Below.refl _ _⟩
  · have HC := show Hid _ from hc
    have HL := show Hid _ from hlen
    clear hc h hlen
    go_enter Tryz.func76, Tryz.ntmps76
    go_wp2
    go_loopw [1, 5] (fun l i wr => ∃ (k : Nat) (y : Int), k ≤ ks.length ∧ i = .int .i64 k ∧ l = .int .i64 y ∧ y = m - ks.length + k - l8 (ks.take k) ∧ 0 ≤ y ∧ Below w.heap.size w wr) (fun _ i _ => ks.length - (intOf i).toNat)
    case atStart => exact ⟨0, m - ks.length, bX5 _, rfl, rfl, by simp [l8], by omega, Below.refl _ _⟩
    case round =>
      obtain ⟨k, y, hk, rfl, rfl, hye, hy, hb⟩ := hrel
      have HY := show Hid _ from hye
      have HB := show Hid _ from hb
      have hy2 : y ≤ 1048576 := by have := ar0 (ks := ks) (k := k); have : k ≤ l8 (ks.take k) := by have := D8 (ks.take k); rw [List.length_take] at this; omega
                                   omega
      clear hye hb
      by_cases hlk : k < ks.length
      · obtain ⟨b, off, iv, vv, bv, ev, rfl, hbk, hf, ⟨c0, c1, c2, c3, c4, c5, c6, c7, c8, c9, c10⟩, g1, g2, g3, g4⟩ := HC.out k hlk
        rw [← (ac7 HB.out).1 _ _ hbk] at c0 c1 c2 c3 c4 c5 c6 c7 c8 c9 c10
        have HE := show Hid (Q1 wr φ (.agg #[.int .i64 ks[k].kind, .int .i64 ks[k].target, .int .i64 ks[k].index.kind, .int .i64 ks[k].index.value, iv, .int .i64 ks[k].value.kind, .int .i64 ks[k].value.value, vv, .int .i64 ks[k].count, bv, ev]) ks[k]) from Q1.nice _ _ _ _ _ _ (N2.below HB.out) ⟨iv, vv, bv, ev, rfl, g1, g2, g3, g4⟩
        clear g1 g2 g3 g4
        go_wp2_with fail
        refine (ih _ (bX2 hlk) φ _ y _ HE.out hy hy2).mono ?_
        rintro e w1 ⟨rfl, b1⟩
        have B1 := show Hid _ from HB.out.trans (b1.mono HB.out.size)
        by_cases hs : y < (J4 ks[k] : Int)
        · rw [A7 hs]
          have hneg := show Hid (L0 m (l8 ks) = -1) from by
            have h1 := bj4 ks (k + 1)
            have h2 := ar0 hlk
            have h3 := D8 (ks.drop (k + 1))
            rw [List.length_drop] at h3
            have h4 := HY.out
            exact A7 (by omega)
          clear hs
          go_wp2_with fail
          go_ret
          exact ⟨C1 hneg.out.symm, B1.out⟩
        · rw [F0 hs]
          have hnn : ¬ (y - (J4 ks[k] : Int) < 0) := by omega
          have hlo : y - (J4 ks[k] : Int) ≤ 1048576 := by omega
          have HS := show Hid _ from hs
          clear hs
          go_wp2_with fail
          exact ⟨⟨k + 1, _, by omega, by go_num, rfl, by rw [HY.out, ar0 hlk]; omega, by omega, B1.out⟩, by simp [intOf]; omega⟩
      · have hkn : k = ks.length := by omega
        subst hkn
        go_wp2_with fail
        go_ret
        exact ⟨C1 (by have h4 := HY.out; rw [bW5 (bW6 _)] at h4; rw [F0 (by omega), h4]; omega), HB.out⟩
theorem a87 (s : b6) : SzS s := by
 refine b6.ind (P := SzS) (fun k t i v c b e ihb ihe => ?_) s
 intro φ u m w h hm hm2
 obtain ⟨iv, vv, bv, ev, rfl, g1, g2, g3, g4⟩ := h
 simp only [b6.index, b6.value, b6.body, b6.els, b6.kind, b6.target, b6.count] at g1 g2 g3 g4 ⊢
 have HS := show Hid (J4 ⟨k, t, i, v, c, b, e⟩ = t2 i + t2 v + l8 b + l8 e) from rfl
 obtain ⟨W, hW, M⟩ : ∃ W, W = w.alloc (.cells #[.int .i64 k, .int .i64 t, .int .i64 i.kind, .int .i64 i.value, iv, .int .i64 v.kind, .int .i64 v.value, vv, .int .i64 c, bv, ev] 151) ∧ C2 (fun _ => True) (fun _ => True) w W [.box w.heap.size [.int .i64 k, .int .i64 t, .int .i64 i.kind, .int .i64 i.value, iv, .int .i64 v.kind, .int .i64 v.value, vv, .int .i64 c, bv, ev]] :=
  ⟨_, rfl, (C2.start fun _ _ => trivial).box _ _⟩
 have HG := show Hid (∀ W', Below w.heap.size w W' → K8 W' φ (.agg #[.int .i64 i.kind, .int .i64 i.value, iv]) i ∧ K8 W' φ (.agg #[.int .i64 v.kind, .int .i64 v.value, vv]) v ∧ t8 W' φ bv b ∧ t8 W' φ ev e) from fun W' k =>
  ⟨⟨iv, rfl, t5.nice _ _ _ _ _ _ (N2.below k) g1⟩, ⟨vv, rfl, t5.nice _ _ _ _ _ _ (N2.below k) g2⟩, t8.nice _ _ _ _ _ _ (N2.below k) g3, t8.nice _ _ _ _ _ _ (N2.below k) g4⟩
 clear g1 g2 g3 g4
 have c2 := M.c 0 2 rfl rfl
 have c3 := M.c 0 3 rfl rfl
 have c4 := M.c 0 4 rfl rfl
 rw [hW] at c2 c3 c4
 go_enter Tryz.func149, Tryz.ntmps149
 go_wp2_with fail
 rw [← hW]
 clear hW c2 c3 c4
 refine (aH0 i φ _ m _ (HG.out _ (M.below fun _ _ => trivial)).1 hm hm2).mono ?_
 rintro x w1 ⟨rfl, b1⟩
 replace M := M.call b1
 clear b1
 by_cases h1 : m < (t2 i : Int)
 ·rw [A7 h1]
  have HB := show Hid _ from M.below fun _ _ => trivial
  have HN := show Hid (L0 m (t2 i + t2 v + l8 b + l8 e) = -1) from A7 (by omega)
  clear h1 M
  go_wp2_with fail
  go_ret
  exact ⟨C1 (by rw [HS.out]; exact HN.out.symm), HB.out⟩
 have hx1 : 0 ≤ m - (t2 i : Int) := by omega
 have hy1 : m - (t2 i : Int) ≤ 1048576 := by omega
 rw [F0 h1]
 have c5 := M.c 0 5 rfl rfl
 have c6 := M.c 0 6 rfl rfl
 have c7 := M.c 0 7 rfl rfl
 clear h1
 have HM := show Hid _ from M
 clear M
 go_wp2_with fail
 have M := HM.out
 clear HM c5 c6 c7
 refine (aH0 v φ _ _ _ (HG.out _ (M.below fun _ _ => trivial)).2.1 hx1 hy1).mono ?_
 rintro x w2 ⟨rfl, b1⟩
 replace M := M.call b1
 clear b1
 by_cases h2 : m - (t2 i : Int) < (t2 v : Int)
 ·rw [A7 h2]
  have HB := show Hid _ from M.below fun _ _ => trivial
  have HN := show Hid (L0 m (t2 i + t2 v + l8 b + l8 e) = -1) from A7 (by omega)
  clear h2 M
  go_wp2_with fail
  go_ret
  exact ⟨C1 (by rw [HS.out]; exact HN.out.symm), HB.out⟩
 have hx2 : 0 ≤ m - (t2 i : Int) - (t2 v : Int) := by omega
 have hy2 : m - (t2 i : Int) - (t2 v : Int) ≤ 1048576 := by omega
 rw [F0 h2]
 have c9 := M.c 0 9 rfl rfl
 clear h2
 have HM := show Hid _ from M
 clear M
 go_wp2_with fail
 have M := HM.out
 clear HM c9
 refine (aq9 b ihb φ _ _ _ (HG.out _ (M.below fun _ _ => trivial)).2.2.1 hx2 hy2).mono ?_
 rintro x w3 ⟨rfl, b1⟩
 replace M := M.call b1
 clear b1
 by_cases h3 : m - (t2 i : Int) - (t2 v : Int) < (l8 b : Int)
 ·rw [A7 h3]
  have HB := show Hid _ from M.below fun _ _ => trivial
  have HN := show Hid (L0 m (t2 i + t2 v + l8 b + l8 e) = -1) from A7 (by omega)
  clear h3 M
  go_wp2_with fail
  go_ret
  exact ⟨C1 (by rw [HS.out]; exact HN.out.symm), HB.out⟩
 have hx3 : 0 ≤ m - (t2 i : Int) - (t2 v : Int) - (l8 b : Int) := by omega
 have hy3 : m - (t2 i : Int) - (t2 v : Int) - (l8 b : Int) ≤ 1048576 := by omega
 rw [F0 h3]
 have c10 := M.c 0 10 rfl rfl
 clear h3
 have HM := show Hid _ from M
 clear M
 go_wp2_with fail
 have M := HM.out
 clear HM c10
 refine (aq9 e ihe φ _ _ _ (HG.out _ (M.below fun _ _ => trivial)).2.2.2 hx3 hy3).mono ?_
 rintro x w4 ⟨rfl, b1⟩
 replace M := M.call b1
 clear b1
 have HB := show Hid _ from M.below fun _ _ => trivial
 clear M
 by_cases h4 : m - (t2 i : Int) - (t2 v : Int) - (l8 b : Int) < (l8 e : Int)
 ·rw [A7 h4]
  have HN := show Hid (L0 m (t2 i + t2 v + l8 b + l8 e) = -1) from A7 (by omega)
  clear h4
  go_wp2_with fail
  go_ret
  exact ⟨C1 (by rw [HS.out]; exact HN.out.symm), HB.out⟩
 ·rw [F0 h4]
  have HN := show Hid (L0 m (t2 i + t2 v + l8 b + l8 e) = m - (t2 i : Int) - (t2 v : Int) - (l8 b : Int) - (l8 e : Int)) from by unfold Hid; rw [F0 (by omega)]; omega
  have hx4 : ¬ (m - (t2 i : Int) - (t2 v : Int) - (l8 b : Int) - (l8 e : Int) < 0) := by omega
  have hy4 : m - (t2 i : Int) - (t2 v : Int) - (l8 b : Int) - (l8 e : Int) ≤ 1048576 := by omega
  clear h4
  go_wp2_with fail
  go_ret
  exact ⟨C1 (by rw [HS.out]; exact HN.out.symm), HB.out⟩
theorem aM5 (φ : Nat → Prop) (u : Value) (p : k6) (m : Int) (w : World) (h : ap5 w φ u p) (hm : 0 ≤ m) (hm2 : m ≤ 1048576) :
  Calls Tryz.prog 26 #[u, .int .i64 m] w fun e w' => e = .returned (.int .i64 (L0 m p.size)) ∧ Below w.heap.size w w' := by
 obtain ⟨v1, v2, v3, rfl, h1, h2, h3⟩ := h
 have HS : Hid (p.size = p.vars.length + p.arrays.length + l8 p.body) := rfl
 obtain ⟨W, hW, M⟩ : ∃ W, W = w.alloc (.cells #[v1, v2, v3] 43) ∧ C2 (fun _ => True) (fun _ => True) w W [.box w.heap.size [v1, v2, v3]] :=
  ⟨_, rfl, (C2.start fun _ _ => trivial).box _ _⟩
 have HG := show Hid (∀ W', Below w.heap.size w W' → V9 W' v1 p.vars.length 1 (ints p.vars) ∧ V9 W' v2 p.arrays.length 1 (ints p.arrays) ∧ t8 W' φ v3 p.body) from fun W' k =>
  ⟨h1.row.below k, h2.row.below k, t8.nice _ _ _ _ _ _ (N2.below k) h3⟩
 clear h1 h2 h3
 have c0 := M.c 0 0 rfl rfl
 rw [hW] at c0
 go_enter Tryz.func26, Tryz.ntmps26
 go_wp2_with fail
 rw [← hW]
 clear hW c0
 refine (aG9 v1 p.vars.length _ m _ (HG.out _ (M.below fun _ _ => trivial)).1 hm hm2).mono ?_
 rintro x w1 ⟨rfl, rfl⟩
 by_cases q1 : m < (p.vars.length : Int)
 ·rw [A7 q1]
  have HB := show Hid _ from M.below fun _ _ => trivial
  have HN := show Hid (L0 m (p.vars.length + p.arrays.length + l8 p.body) = -1) from A7 (by omega)
  clear q1 M
  go_wp2_with fail
  go_ret
  exact ⟨C1 (by rw [HS.out]; exact HN.out.symm), HB.out⟩
 have hx1 : 0 ≤ m - (p.vars.length : Int) := by omega
 have hy1 : m - (p.vars.length : Int) ≤ 1048576 := by omega
 rw [F0 q1]
 have c1 := M.c 0 1 rfl rfl
 clear q1
 have HM := show Hid _ from M
 clear M
 go_wp2_with fail
 have M := HM.out
 clear HM c1
 refine (aG9 v2 p.arrays.length _ _ _ (HG.out _ (M.below fun _ _ => trivial)).2.1 hx1 hy1).mono ?_
 rintro x w1 ⟨rfl, rfl⟩
 by_cases q2 : m - (p.vars.length : Int) < (p.arrays.length : Int)
 ·rw [A7 q2]
  have HB := show Hid _ from M.below fun _ _ => trivial
  have HN := show Hid (L0 m (p.vars.length + p.arrays.length + l8 p.body) = -1) from A7 (by omega)
  clear q2 M
  go_wp2_with fail
  go_ret
  exact ⟨C1 (by rw [HS.out]; exact HN.out.symm), HB.out⟩
 have hx2 : 0 ≤ m - (p.vars.length : Int) - (p.arrays.length : Int) := by omega
 have hy2 : m - (p.vars.length : Int) - (p.arrays.length : Int) ≤ 1048576 := by omega
 rw [F0 q2]
 have c2 := M.c 0 2 rfl rfl
 clear q2
 have HM := show Hid _ from M
 clear M
 go_wp2_with fail
 have M := HM.out
 clear HM c2
 refine (aq9 p.body (fun s _ => a87 s) φ _ _ _ (HG.out _ (M.below fun _ _ => trivial)).2.2 hx2 hy2).mono ?_
 rintro x w3 ⟨rfl, b1⟩
 replace M := M.call b1
 clear b1
 have HB := show Hid _ from M.below fun _ _ => trivial
 clear M
 by_cases q3 : m - (p.vars.length : Int) - (p.arrays.length : Int) < (l8 p.body : Int)
 ·rw [A7 q3]
  have HN := show Hid (L0 m (p.vars.length + p.arrays.length + l8 p.body) = -1) from A7 (by omega)
  clear q3
  go_wp2_with fail
  go_ret
  exact ⟨C1 (by rw [HS.out]; exact HN.out.symm), HB.out⟩
 ·rw [F0 q3]
  have HN := show Hid (L0 m (p.vars.length + p.arrays.length + l8 p.body) = m - (p.vars.length : Int) - (p.arrays.length : Int) - (l8 p.body : Int)) from by unfold Hid; rw [F0 (by omega)]; omega
  have hx4 : ¬ (m - (p.vars.length : Int) - (p.arrays.length : Int) - (l8 p.body : Int) < 0) := by omega
  have hy4 : m - (p.vars.length : Int) - (p.arrays.length : Int) - (l8 p.body : Int) ≤ 1048576 := by omega
  clear q3
  go_wp2_with fail
  go_ret
  exact ⟨C1 (by rw [HS.out]; exact HN.out.symm), HB.out⟩
theorem bR0 : (Tryz.prog.info? 104).map (fun i => (i.zero, i.size, i.bytes)) = some (some (.agg #[.int .i64 0, .int .i64 0, .slice none 0 0]), 3, 40) := by kernel_rfl
theorem Z5 {w : World} {g p : Nat} {us : List Value} {b : Nat} (hb : b < w.heap.size) (hne : b ≠ g) : (World.setFrom w g p us).heap[b]? = w.heap[b]? :=
 (Out.setFrom us (Out.refl g (g + 1) w) (bW6 _) (Nat.lt_succ_self _)).block b hb (by omega)
def ToE (e : b5) : Prop := ∀ (φ : Nat → Prop) (v : Value) (w : World), K8 w φ v e → t2 e ≤ 1048576 →
 Calls Tryz.prog 206 #[v] w fun x w' => ∃ a c S, x = .returned (.agg #[.int .i64 e.kind, .int .i64 e.value, .slice a e.kids.length c]) ∧ B8 w' (.slice a e.kids.length c) e.kids S ∧ (∀ b, S b → w.heap.size ≤ b ∧ b < w'.heap.size) ∧ Below w.heap.size w w'
theorem a86 (ks : List b5) (ih : ∀ e ∈ ks, ToE e) (φ : Nat → Prop) (v : Value) (w : World) (h : t5 w φ v ks) (hb : s6 ks ≤ 1048576) :
  Calls Tryz.prog 242 #[v] w fun x w' => ∃ a c S, x = .returned (.slice a ks.length c) ∧ B8 w' (.slice a ks.length c) ks S ∧ (∀ b, S b → w.heap.size ≤ b ∧ b < w'.heap.size) ∧ Below w.heap.size w w' := by
 obtain ⟨a1, c1, rfl, -, hm1, -, hc1⟩ := h.open
 have hlen := P4 ks
 have HC := show Hid _ from hc1
 clear h hc1
 have hmk := av1 (P := Tryz.prog) (t := 102) Tryz.underlying102 bR0 rfl (by omega) ks.length (by omega) hm1
 have hown := au5 w (Value.agg #[.int .i64 0, .int .i64 0, .slice none 0 0]).cells.toList ks.length 3 104 rfl hm1
 have HB := show Hid _ from hb
 have HLN := show Hid _ from hlen
 clear hb hlen
 go_enter Tryz.func242, Tryz.ntmps242
 go_wp2_with fail
 clear hmk
 go_loopw [4] (fun i wr => ∃ (k : Nat) (ys : List Value), k ≤ ks.length ∧ i = .int .i64 k ∧ R3 wr w.heap.size (w.heap.size + 1) 104 3 (.slice (some ⟨w.heap.size, 0, none⟩) ks.length ks.length) ks.length ys ∧ t9 wr (ks.take k) (fun b => w.heap.size < b ∧ b < wr.heap.size) (ys.take (k * 3)) ∧ Below w.heap.size w wr) (fun i _ => ks.length - (intOf i).toNat)
 case atStart => exact ⟨0, _, bX5 _, rfl, hown, by simp [t9], (Below.refl _ _).alloc (bW6 _) _⟩
 case round =>
  obtain ⟨k, ys, hk, rfl, ho, ht, hbw⟩ := hrel
  have HT := show Hid _ from ht
  clear ht hown
  by_cases hlt : k < ks.length
  ·obtain ⟨b1, o1, kv, rfl, hb1, hf, x0, x1, x2, hkv⟩ := HC.out k hlt
   rw [← (ac7 hbw).1 _ _ hb1] at x0 x1 x2
   have HY := show Hid (ys.length = ks.length * 3) from ho.1.1
   have HE := show Hid (K8 wr φ (.agg #[.int .i64 ks[k].kind, .int .i64 ks[k].value, kv]) ks[k]) from ⟨kv, rfl, t5.nice _ _ _ _ _ _ (N2.below hbw) hkv⟩
   clear hkv
   go_wp2_with fail
   refine (ih _ (bX2 hlt) φ _ _ HE.out (by have h1 := aT1 (bX2 hlt); have h2 := HB.out; omega)).mono ?_
   rintro e w1 ⟨ra, rc, S1, rfl, hO, hS, hbc⟩
   have ho1 := ho.keep hbc (by have := ho.lt _ rfl; omega)
   have hin : ∀ j, j < 3 → k * 3 + j < ys.length := fun j hj => by rw [HY.out]; omega
   obtain ⟨g, cap, hv, hg1, hg2, hg3, f0, u0, y0⟩ := ho1.at (hin 0 (by omega))
   cases hv
   obtain ⟨g, cap, hv, -, -, -, f1, u1, y1⟩ := ho1.at (hin 1 (by omega))
   cases hv
   obtain ⟨g, cap, hv, -, -, -, f2, u2, y2⟩ := ho1.at (hin 2 (by omega))
   cases hv
   simp only [bZ5] at f0 y0
   have hg4 : w.heap.size < w1.heap.size := hg3
   have HO := show Hid _ from hO
   have HS := show Hid _ from hS
   have hsz0 := hbw.size
   have hszr := hbc.size
   have hgr : w.heap.size < wr.heap.size := (ho.lt _ rfl).2.2
   clear hin hO hS
   go_wp2_with fail
   have hb3 := ap3 (p := k * 3) [.int .i64 ks[k].kind, .int .i64 ks[k].value, (.slice ra ks[k].kids.length rc)] (hbw.trans (hbc.mono hbw.size)) (bW6 w.heap.size)
   have hsz := (Out.setFrom (p := k * 3) [.int .i64 ks[k].kind, .int .i64 ks[k].value, (.slice ra ks[k].kids.length rc)] (Out.refl w.heap.size (w.heap.size + 1) w1) (bW6 _) (Nat.lt_succ_self _)).size
   refine ⟨⟨k + 1, _, by omega, by go_num, ho1.setFrom [.int .i64 ks[k].kind, .int .i64 ks[k].value, (.slice ra ks[k].kids.length rc)] (by simp; rw [HY.out]; omega), ?_, hb3⟩, by simp [intOf]; omega⟩
   rw [bY3, m8 _ _ hlt]
   rw [show (setFrom ys (k * 3) [.int .i64 ks[k].kind, .int .i64 ks[k].value, (.slice ra ks[k].kids.length rc)]).take (k * 3 + 3) = ys.take (k * 3) ++ [.int .i64 ks[k].kind, .int .i64 ks[k].value, (.slice ra ks[k].kids.length rc)] from T2 [_, _, _] _ _ (by simp; rw [HY.out]; omega)]
   refine t9.snoc (S := fun b => w.heap.size < b ∧ b < wr.heap.size) (T := S1) (t9.same _ _ _ HT.out fun b hbb hlt' => ?_) ((G5.iff _ _ _).2 ⟨.slice ra ks[k].kids.length rc, rfl, B8.same HO.out fun b hbb hlt' => ?_⟩) (fun b hbb => ⟨⟨hbb.1, ?_⟩, fun h1 => ?_⟩) fun b hbb => ⟨?_, ?_⟩
   ·obtain ⟨p1, p2⟩ : w.heap.size < b ∧ b < wr.heap.size := hbb
    exact (Z5 (p := k * 3) (us := [.int .i64 ks[k].kind, .int .i64 ks[k].value, (.slice ra ks[k].kids.length rc)]) (by omega) (by omega)).trans (hbc.block b p2)
   ·obtain ⟨p1, p2⟩ : wr.heap.size ≤ b ∧ b < w1.heap.size := HS.out b hbb
    exact Z5 (p := k * 3) (us := [.int .i64 ks[k].kind, .int .i64 ks[k].value, (.slice ra ks[k].kids.length rc)]) hlt' (by omega)
   ·exact bY4 (bY4 hbb.2 hszr) hsz
   ·have h2 : wr.heap.size ≤ b ∧ b < w1.heap.size := HS.out b h1
    have h3 : b < wr.heap.size := hbb.2
    omega
   ·have h2 : wr.heap.size ≤ b ∧ b < w1.heap.size := HS.out b hbb
    show w.heap.size < b
    omega
   ·exact bY4 (HS.out b hbb).2 hsz
  ·have hkn : k = ks.length := by omega
   subst hkn
   go_wp2_with fail
   go_ret
   have hl : ys.take (ks.length * 3) = ys := bW5 (by rw [ho.1.1]; exact bW6 _)
   have ht := HT.out
   rw [hl, bW5 (bW6 _)] at ht
   exact ⟨_, _, fun b => w.heap.size ≤ b ∧ b < wr.heap.size, rfl, ⟨ys, fun b => w.heap.size < b ∧ b < wr.heap.size, I2 ho.1 (bX5 _), fun g hg => by cases hg; exact ⟨⟨bW6 _, (ho.lt _ rfl).2.2⟩, fun h => absurd h.1 (Nat.lt_irrefl _)⟩, fun b hb => ⟨by omega, hb.2⟩, ht⟩, fun b hb => hb, hbw⟩
theorem aG8 (e : b5) : ToE e := by
 refine b5.ind (P := ToE) (fun k n ks ih => ?_) e
 intro φ v w h hb
 obtain ⟨kv, rfl, hk⟩ := h
 simp only [b5.kind, b5.value, b5.kids] at hk ⊢
 obtain ⟨W, hW, M⟩ : ∃ W, W = (((w.alloc (.cells #[.int .i64 k, .int .i64 n, kv] 149)).alloc (.cells #[.int .i64 0, .int .i64 0, .slice none 0 0] 104)).alloc (.cells #[.int .i64 k, .int .i64 n, .slice none 0 0] 104)) ∧ C2 (fun _ => True) (fun _ => True) w W [.box w.heap.size [.int .i64 k, .int .i64 n, kv], .box (w.heap.size + 1) [.int .i64 0, .int .i64 0, .slice none 0 0], .box (w.heap.size + 1 + 1) [.int .i64 k, .int .i64 n, .slice none 0 0]] :=
  ⟨_, rfl, (((C2.start fun _ _ => trivial).box _ _).box' _ _ (by simp)).box' _ _ (by simp)⟩
 have HK := show Hid _ from t5.nice _ _ _ _ _ _ (N2.below (M.below fun _ _ => trivial)) hk
 have sW : W.heap.size = w.heap.size + 1 + 1 + 1 := by rw [hW]; simp
 have HM := show Hid _ from M
 have HS := show Hid _ from sW
 clear hk M sW
 go_enter Tryz.func206, Tryz.ntmps206
 go_wp2_with fail
 rw [← hW]
 clear hW
 refine (a86 ks ih φ kv _ HK.out hb).mono ?_
 rintro x w1 ⟨ra, rc, S1, rfl, hO, hS, b1⟩
 have M := HM.out.callO b1 (S := S1) (R := fun w => B8 w (.slice ra ks.length rc) ks S1) (fun w w' h hs => B8.same h hs) hO hS
 clear HM b1 hO
 have c0 := M.c 2 0 rfl rfl
 have c1 := M.c 2 1 rfl rfl
 have c2 := M.c 2 2 rfl rfl
 have d0 := M.c 1 0 rfl rfl
 have d1 := M.c 1 1 rfl rfl
 have d2 := M.c 1 2 rfl rfl
 have f1 := M.f 1 rfl
 have f2 := M.f 2 rfl
 have M2 := (((M.set 2 rfl 2 (.slice ra ks.length rc)).set 1 rfl 0 (.int .i64 k)).set 1 rfl 1 (.int .i64 n)).set 1 rfl 2 (.slice ra ks.length rc)
 have HM2 := show Hid _ from M2
 have HSS := show Hid _ from hS
 clear M M2 hS
 go_wp2_with fail
 have M2 := HM2.out
 have r0 : World.cell? _ ⟨w.heap.size + 1, 0, none⟩ = some (.int .i64 k) := M2.c 1 0 rfl rfl
 have r1 : World.cell? _ ⟨w.heap.size + 1, 1, none⟩ = some (.int .i64 n) := M2.c 1 1 rfl rfl
 have r2 : World.cell? _ ⟨w.heap.size + 1, 2, none⟩ = some (.slice ra ks.length rc) := M2.c 1 2 rfl rfl
 refine bodyPost_ret (v := .agg #[.int .i64 k, .int .i64 n, .slice ra ks.length rc]) (by simp [results, Tryz.results206, go_sem, r0, r1, r2]) rfl ⟨ra, rc, S1, rfl, M2.o 3 rfl, fun b hbb => ⟨?_, M2.lt (bX1 (i := 3) rfl) hbb⟩, M2.below fun _ _ => trivial⟩
 have := HSS.out b hbb
 have := HS.out
 omega
theorem bQ9 : (Tryz.prog.info? 106).map (fun i => (i.zero, i.size, i.bytes)) = some (some (.agg #[.int .i64 0, .int .i64 0, .int .i64 0, .int .i64 0, .slice none 0 0, .int .i64 0, .int .i64 0, .slice none 0 0, .int .i64 0, .slice none 0 0, .slice none 0 0]), 11, 152) := by kernel_rfl
def be8 (s : b6) (ai : Option Addr) (ci : Nat) (av : Option Addr) (cv : Nat) (ab : Option Addr) (cb : Nat) (ae : Option Addr) (ce : Nat) : List Value :=
 [.int .i64 s.kind, .int .i64 s.target, .int .i64 s.index.kind, .int .i64 s.index.value, .slice ai s.index.kids.length ci, .int .i64 s.value.kind, .int .i64 s.value.value, .slice av s.value.kids.length cv, .int .i64 s.count, .slice ab s.body.length cb, .slice ae s.els.length ce]
def ToS (s : b6) : Prop := ∀ (φ : Nat → Prop) (v : Value) (w : World), Q1 w φ v s → J4 s ≤ 1048576 →
 Calls Tryz.prog 162 #[v] w fun x w' => ∃ ai ci av cv ab cb ae ce S, x = .returned (.agg #[.int .i64 s.kind, .int .i64 s.target, .int .i64 s.index.kind, .int .i64 s.index.value, .slice ai s.index.kids.length ci, .int .i64 s.value.kind, .int .i64 s.value.value, .slice av s.value.kids.length cv, .int .i64 s.count, .slice ab s.body.length cb, .slice ae s.els.length ce]) ∧
  G3 w' s S (be8 s ai ci av cv ab cb ae ce) ∧ (∀ b, S b → w.heap.size ≤ b ∧ b < w'.heap.size) ∧ Below w.heap.size w w'
theorem aq8 (ks : List b6) (ih : ∀ e ∈ ks, ToS e) (φ : Nat → Prop) (v : Value) (w : World) (h : t8 w φ v ks) (hb : l8 ks ≤ 1048576) :
  Calls Tryz.prog 81 #[v] w fun x w' => ∃ a c S, x = .returned (.slice a ks.length c) ∧ A5 w' (.slice a ks.length c) ks S ∧ (∀ b, S b → w.heap.size ≤ b ∧ b < w'.heap.size) ∧ Below w.heap.size w w' := by
 obtain ⟨a1, c1, rfl, -, hm1, -, hc1⟩ := h.open
 have hlen := D8 ks
 have HC := show Hid _ from hc1
 clear h hc1
 have hmk := av1 (P := Tryz.prog) (t := 24) Tryz.underlying24 bQ9 rfl (by omega) ks.length (by omega) hm1
 have hown := au5 w (Value.agg #[.int .i64 0, .int .i64 0, .int .i64 0, .int .i64 0, .slice none 0 0, .int .i64 0, .int .i64 0, .slice none 0 0, .int .i64 0, .slice none 0 0, .slice none 0 0]).cells.toList ks.length 11 106 rfl hm1
 have HB := show Hid _ from hb
 have HLN := show Hid _ from hlen
 clear hb hlen
 go_enter Tryz.func81, Tryz.ntmps81
 go_wp2_with fail
 clear hmk
 go_loopw [4] (fun i wr => ∃ (k : Nat) (ys : List Value), k ≤ ks.length ∧ i = .int .i64 k ∧ R3 wr w.heap.size (w.heap.size + 1) 106 11 (.slice (some ⟨w.heap.size, 0, none⟩) ks.length ks.length) ks.length ys ∧ t7 wr (ks.take k) (fun b => w.heap.size < b ∧ b < wr.heap.size) (ys.take (k * 11)) ∧ Below w.heap.size w wr) (fun i _ => ks.length - (intOf i).toNat)
 case atStart => exact ⟨0, _, bX5 _, rfl, hown, by simp [t7], (Below.refl _ _).alloc (bW6 _) _⟩
 case round =>
  obtain ⟨k, ys, hk, rfl, ho, ht, hbw⟩ := hrel
  have HT := show Hid _ from ht
  clear ht hown
  by_cases hlt : k < ks.length
  ·obtain ⟨b1, o1, iv, vv, bv, ev, rfl, hb1, hf, ⟨x0, x1, x2, x3, x4, x5, x6, x7, x8, x9, x10⟩, k1, k2, k3, k4⟩ := HC.out k hlt
   rw [← (ac7 hbw).1 _ _ hb1] at x0 x1 x2 x3 x4 x5 x6 x7 x8 x9 x10
   have HY := show Hid (ys.length = ks.length * 11) from ho.1.1
   have HE := show Hid (Q1 wr φ (.agg #[.int .i64 ks[k].kind, .int .i64 ks[k].target, .int .i64 ks[k].index.kind, .int .i64 ks[k].index.value, iv, .int .i64 ks[k].value.kind, .int .i64 ks[k].value.value, vv, .int .i64 ks[k].count, bv, ev]) ks[k]) from Q1.nice _ _ _ _ _ _ (N2.below hbw) ⟨iv, vv, bv, ev, rfl, k1, k2, k3, k4⟩
   clear k1 k2 k3 k4
   go_wp2_with fail
   refine (ih _ (bX2 hlt) φ _ _ HE.out (by have h1 := L5 (bX2 hlt); have h2 := HB.out; omega)).mono ?_
   rintro e w1 ⟨ai, ci, av, cv, ab, cb, ae, ce, S1, rfl, hO, hS, hbc⟩
   have ho1 := ho.keep hbc (by have := ho.lt _ rfl; omega)
   have hin : ∀ j, j < 11 → k * 11 + j < ys.length := fun j hj => by rw [HY.out]; omega
   obtain ⟨g, cap, hv, hg1, hg2, hg3, f0, u0, y0⟩ := ho1.at (hin 0 (by omega))
   cases hv
   obtain ⟨g, cap, hv, -, -, -, f1, u1, y1⟩ := ho1.at (hin 1 (by omega))
   cases hv
   obtain ⟨g, cap, hv, -, -, -, f2, u2, y2⟩ := ho1.at (hin 2 (by omega))
   cases hv
   obtain ⟨g, cap, hv, -, -, -, f3, u3, y3⟩ := ho1.at (hin 3 (by omega))
   cases hv
   obtain ⟨g, cap, hv, -, -, -, f4, u4, y4⟩ := ho1.at (hin 4 (by omega))
   cases hv
   obtain ⟨g, cap, hv, -, -, -, f5, u5, y5⟩ := ho1.at (hin 5 (by omega))
   cases hv
   obtain ⟨g, cap, hv, -, -, -, f6, u6, y6⟩ := ho1.at (hin 6 (by omega))
   cases hv
   obtain ⟨g, cap, hv, -, -, -, f7, u7, y7⟩ := ho1.at (hin 7 (by omega))
   cases hv
   obtain ⟨g, cap, hv, -, -, -, f8, u8, y8⟩ := ho1.at (hin 8 (by omega))
   cases hv
   obtain ⟨g, cap, hv, -, -, -, f9, u9, y9⟩ := ho1.at (hin 9 (by omega))
   cases hv
   obtain ⟨g, cap, hv, -, -, -, f10, u10, y10⟩ := ho1.at (hin 10 (by omega))
   cases hv
   simp only [bZ5] at f0 y0
   have hg4 : w.heap.size < w1.heap.size := hg3
   have HO := show Hid _ from hO
   have HS := show Hid _ from hS
   have hsz0 := hbw.size
   have hszr := hbc.size
   have hgr : w.heap.size < wr.heap.size := (ho.lt _ rfl).2.2
   clear hin hO hS
   go_wp2_with fail
   have hb3 := ap3 (p := k * 11) [.int .i64 ks[k].kind, .int .i64 ks[k].target, .int .i64 ks[k].index.kind, .int .i64 ks[k].index.value, .slice ai ks[k].index.kids.length ci, .int .i64 ks[k].value.kind, .int .i64 ks[k].value.value, .slice av ks[k].value.kids.length cv, .int .i64 ks[k].count, .slice ab ks[k].body.length cb, .slice ae ks[k].els.length ce] (hbw.trans (hbc.mono hbw.size)) (bW6 w.heap.size)
   have hsz := (Out.setFrom (p := k * 11) [.int .i64 ks[k].kind, .int .i64 ks[k].target, .int .i64 ks[k].index.kind, .int .i64 ks[k].index.value, .slice ai ks[k].index.kids.length ci, .int .i64 ks[k].value.kind, .int .i64 ks[k].value.value, .slice av ks[k].value.kids.length cv, .int .i64 ks[k].count, .slice ab ks[k].body.length cb, .slice ae ks[k].els.length ce] (Out.refl w.heap.size (w.heap.size + 1) w1) (bW6 _) (Nat.lt_succ_self _)).size
   refine ⟨⟨k + 1, _, by omega, by go_num, ho1.setFrom [.int .i64 ks[k].kind, .int .i64 ks[k].target, .int .i64 ks[k].index.kind, .int .i64 ks[k].index.value, .slice ai ks[k].index.kids.length ci, .int .i64 ks[k].value.kind, .int .i64 ks[k].value.value, .slice av ks[k].value.kids.length cv, .int .i64 ks[k].count, .slice ab ks[k].body.length cb, .slice ae ks[k].els.length ce] (by simp; rw [HY.out]; omega), ?_, hb3⟩, by simp [intOf]; omega⟩
   rw [bY3, m8 _ _ hlt]
   rw [show (setFrom ys (k * 11) [.int .i64 ks[k].kind, .int .i64 ks[k].target, .int .i64 ks[k].index.kind, .int .i64 ks[k].index.value, .slice ai ks[k].index.kids.length ci, .int .i64 ks[k].value.kind, .int .i64 ks[k].value.value, .slice av ks[k].value.kids.length cv, .int .i64 ks[k].count, .slice ab ks[k].body.length cb, .slice ae ks[k].els.length ce]).take (k * 11 + 11) = ys.take (k * 11) ++ [.int .i64 ks[k].kind, .int .i64 ks[k].target, .int .i64 ks[k].index.kind, .int .i64 ks[k].index.value, .slice ai ks[k].index.kids.length ci, .int .i64 ks[k].value.kind, .int .i64 ks[k].value.value, .slice av ks[k].value.kids.length cv, .int .i64 ks[k].count, .slice ab ks[k].body.length cb, .slice ae ks[k].els.length ce] from T2 [_, _, _, _, _, _, _, _, _, _, _] _ _ (by simp; rw [HY.out]; omega)]
   refine t7.snoc (S := fun b => w.heap.size < b ∧ b < wr.heap.size) (T := S1) (t7.same _ _ _ HT.out fun b hbb hlt' => ?_) (G3.same _ _ _ HO.out fun b hbb hlt' => ?_) (fun b hbb => ⟨⟨hbb.1, ?_⟩, fun h1 => ?_⟩) fun b hbb => ⟨?_, ?_⟩
   ·obtain ⟨p1, p2⟩ : w.heap.size < b ∧ b < wr.heap.size := hbb
    exact (Z5 (p := k * 11) (us := [.int .i64 ks[k].kind, .int .i64 ks[k].target, .int .i64 ks[k].index.kind, .int .i64 ks[k].index.value, .slice ai ks[k].index.kids.length ci, .int .i64 ks[k].value.kind, .int .i64 ks[k].value.value, .slice av ks[k].value.kids.length cv, .int .i64 ks[k].count, .slice ab ks[k].body.length cb, .slice ae ks[k].els.length ce]) (by omega) (by omega)).trans (hbc.block b p2)
   ·obtain ⟨p1, p2⟩ : wr.heap.size ≤ b ∧ b < w1.heap.size := HS.out b hbb
    exact Z5 (p := k * 11) (us := [.int .i64 ks[k].kind, .int .i64 ks[k].target, .int .i64 ks[k].index.kind, .int .i64 ks[k].index.value, .slice ai ks[k].index.kids.length ci, .int .i64 ks[k].value.kind, .int .i64 ks[k].value.value, .slice av ks[k].value.kids.length cv, .int .i64 ks[k].count, .slice ab ks[k].body.length cb, .slice ae ks[k].els.length ce]) hlt' (by omega)
   ·exact bY4 (bY4 hbb.2 hszr) hsz
   ·have h2 : wr.heap.size ≤ b ∧ b < w1.heap.size := HS.out b h1
    have h3 : b < wr.heap.size := hbb.2
    omega
   ·have h2 : wr.heap.size ≤ b ∧ b < w1.heap.size := HS.out b hbb
    show w.heap.size < b
    omega
   ·exact bY4 (HS.out b hbb).2 hsz
  ·have hkn : k = ks.length := by omega
   subst hkn
   go_wp2_with fail
   go_ret
   have hl : ys.take (ks.length * 11) = ys := bW5 (by rw [ho.1.1]; exact bW6 _)
   have ht := HT.out
   rw [hl, bW5 (bW6 _)] at ht
   exact ⟨_, _, fun b => w.heap.size ≤ b ∧ b < wr.heap.size, rfl, ⟨ys, fun b => w.heap.size < b ∧ b < wr.heap.size, I2 ho.1 (bX5 _), fun g hg => by cases hg; exact ⟨⟨bW6 _, (ho.lt _ rfl).2.2⟩, fun h => absurd h.1 (Nat.lt_irrefl _)⟩, fun b hb => ⟨by omega, hb.2⟩, ht⟩, fun b hb => hb, hbw⟩
theorem a85 (s : b6) : ToS s := by
 refine b6.ind (P := ToS) (fun k t i v c b e ihb ihe => ?_) s
 intro φ u w h hb
 obtain ⟨iv, vv, bv, ev, rfl, g1, g2, g3, g4⟩ := h
 have hsz : t2 i + t2 v + l8 b + l8 e ≤ 1048576 := hb
 simp only [b6.index, b6.value, b6.body, b6.els, b6.kind, b6.target, b6.count, be8] at g1 g2 g3 g4 ⊢
 obtain ⟨W, hW, M⟩ : ∃ W, W = (((w.alloc (.cells #[.int .i64 k, .int .i64 t, .int .i64 i.kind, .int .i64 i.value, iv, .int .i64 v.kind, .int .i64 v.value, vv, .int .i64 c, bv, ev] 151)).alloc (.cells #[.int .i64 0, .int .i64 0, .int .i64 0, .int .i64 0, .slice none 0 0, .int .i64 0, .int .i64 0, .slice none 0 0, .int .i64 0, .slice none 0 0, .slice none 0 0] 106)).alloc (.cells #[.int .i64 k, .int .i64 t, .int .i64 0, .int .i64 0, .slice none 0 0, .int .i64 0, .int .i64 0, .slice none 0 0, .int .i64 0, .slice none 0 0, .slice none 0 0] 106)) ∧ C2 (fun _ => True) (fun _ => True) w W [.box w.heap.size [.int .i64 k, .int .i64 t, .int .i64 i.kind, .int .i64 i.value, iv, .int .i64 v.kind, .int .i64 v.value, vv, .int .i64 c, bv, ev], .box (w.heap.size + 1) [.int .i64 0, .int .i64 0, .int .i64 0, .int .i64 0, .slice none 0 0, .int .i64 0, .int .i64 0, .slice none 0 0, .int .i64 0, .slice none 0 0, .slice none 0 0], .box (w.heap.size + 1 + 1) [.int .i64 k, .int .i64 t, .int .i64 0, .int .i64 0, .slice none 0 0, .int .i64 0, .int .i64 0, .slice none 0 0, .int .i64 0, .slice none 0 0, .slice none 0 0]] :=
  ⟨_, rfl, (((C2.start fun _ _ => trivial).box _ _).box' _ _ (by simp)).box' _ _ (by simp)⟩
 have HG := show Hid (∀ W', Below w.heap.size w W' → K8 W' φ (.agg #[.int .i64 i.kind, .int .i64 i.value, iv]) i ∧ K8 W' φ (.agg #[.int .i64 v.kind, .int .i64 v.value, vv]) v ∧ t8 W' φ bv b ∧ t8 W' φ ev e) from fun W' k =>
  ⟨⟨iv, rfl, t5.nice _ _ _ _ _ _ (N2.below k) g1⟩, ⟨vv, rfl, t5.nice _ _ _ _ _ _ (N2.below k) g2⟩, t8.nice _ _ _ _ _ _ (N2.below k) g3, t8.nice _ _ _ _ _ _ (N2.below k) g4⟩
 clear g1 g2 g3 g4
 have c2 := M.c 0 2 rfl rfl
 have c3 := M.c 0 3 rfl rfl
 have c4 := M.c 0 4 rfl rfl
 rw [hW] at c2 c3 c4
 have HZ := show Hid _ from hsz
 have HM := show Hid _ from M
 clear M hsz hb
 go_enter Tryz.func162, Tryz.ntmps162
 go_wp2_with fail
 rw [← hW]
 have M := HM.out
 clear hW HM c2 c3 c4
 refine (aG8 i φ _ _ (HG.out _ (M.below fun _ _ => trivial)).1 (by have := HZ.out; omega)).mono ?_
 rintro x w1 ⟨ai, ci, S1, rfl, hO, hS, b1⟩
 replace M := M.callO b1 (S := S1) (R := fun w => B8 w (.slice ai i.kids.length ci) i.kids S1) (fun w w' h hs => B8.same h hs) hO (fun b hb => hS b hb)
 clear hO hS b1
 have q2_2 := M.c 2 2 rfl rfl
 have q2_3 := M.c 2 3 rfl rfl
 have q2_4 := M.c 2 4 rfl rfl
 have q0_5 := M.c 0 5 rfl rfl
 have q0_6 := M.c 0 6 rfl rfl
 have q0_7 := M.c 0 7 rfl rfl
 have fo := M.f 2 rfl
 have M2 := (((M.set 2 rfl 2 (.int .i64 i.kind)).set 2 rfl 3 (.int .i64 i.value)).set 2 rfl 4 (.slice ai i.kids.length ci))
 have HM2 := show Hid _ from M2
 clear M M2
 go_wp2_with fail
 have M := HM2.out
 clear HM2 fo q2_2 q2_3 q2_4 q0_5 q0_6 q0_7
 refine (aG8 v φ _ _ (HG.out _ (M.below fun _ _ => trivial)).2.1 (by have := HZ.out; omega)).mono ?_
 rintro x w1 ⟨av, cv, S2, rfl, hO, hS, b1⟩
 replace M := M.callO b1 (S := S2) (R := fun w => B8 w (.slice av v.kids.length cv) v.kids S2) (fun w w' h hs => B8.same h hs) hO (fun b hb => hS b hb)
 clear hO hS b1
 have q2_5 := M.c 2 5 rfl rfl
 have q2_6 := M.c 2 6 rfl rfl
 have q2_7 := M.c 2 7 rfl rfl
 have q0_8 := M.c 0 8 rfl rfl
 have q2_8 := M.c 2 8 rfl rfl
 have q0_9 := M.c 0 9 rfl rfl
 have fo := M.f 2 rfl
 have M2 := ((((M.set 2 rfl 5 (.int .i64 v.kind)).set 2 rfl 6 (.int .i64 v.value)).set 2 rfl 7 (.slice av v.kids.length cv)).set 2 rfl 8 (.int .i64 c))
 have HM2 := show Hid _ from M2
 clear M M2
 go_wp2_with fail
 have M := HM2.out
 clear HM2 fo q2_5 q2_6 q2_7 q0_8 q2_8 q0_9
 refine (aq8 b ihb φ _ _ (HG.out _ (M.below fun _ _ => trivial)).2.2.1 (by have := HZ.out; omega)).mono ?_
 rintro x w1 ⟨ab, cb, S3, rfl, hO, hS, b1⟩
 replace M := M.callO b1 (S := S3) (R := fun w => A5 w (.slice ab b.length cb) b S3) (fun w w' h hs => A5.same h hs) hO (fun b hb => hS b hb)
 clear hO hS b1
 have q2_9 := M.c 2 9 rfl rfl
 have q0_10 := M.c 0 10 rfl rfl
 have fo := M.f 2 rfl
 have M2 := (M.set 2 rfl 9 (.slice ab b.length cb))
 have HM2 := show Hid _ from M2
 clear M M2
 go_wp2_with fail
 have M := HM2.out
 clear HM2 fo q2_9 q0_10
 refine (aq8 e ihe φ _ _ (HG.out _ (M.below fun _ _ => trivial)).2.2.2 (by have := HZ.out; omega)).mono ?_
 rintro x w1 ⟨ae, ce, S4, rfl, hO, hS, b1⟩
 replace M := M.callO b1 (S := S4) (R := fun w => A5 w (.slice ae e.length ce) e S4) (fun w w' h hs => A5.same h hs) hO (fun b hb => hS b hb)
 clear hO hS b1
 replace M := M.as [.box w.heap.size [.int .i64 k, .int .i64 t, .int .i64 i.kind, .int .i64 i.value, iv, .int .i64 v.kind, .int .i64 v.value, vv, .int .i64 c, bv, ev], .box (w.heap.size + 1) [.int .i64 0, .int .i64 0, .int .i64 0, .int .i64 0, .slice none 0 0, .int .i64 0, .int .i64 0, .slice none 0 0, .int .i64 0, .slice none 0 0, .slice none 0 0], .box (w.heap.size + 1 + 1) [.int .i64 k, .int .i64 t, .int .i64 i.kind, .int .i64 i.value, .slice ai i.kids.length ci, .int .i64 v.kind, .int .i64 v.value, .slice av v.kids.length cv, .int .i64 c, .slice ab b.length cb, .slice none 0 0], .own S1 (fun w => B8 w (.slice ai i.kids.length ci) i.kids S1), .own S2 (fun w => B8 w (.slice av v.kids.length cv) v.kids S2), .own S3 (fun w => A5 w (.slice ab b.length cb) b S3), .own S4 (fun w => A5 w (.slice ae e.length ce) e S4)] rfl
 have o0 : World.cell? _ ⟨w.heap.size + 1 + 1, 0, none⟩ = some (.int .i64 k) := M.c 2 0 rfl rfl
 have o1 : World.cell? _ ⟨w.heap.size + 1 + 1, 1, none⟩ = some (.int .i64 t) := M.c 2 1 rfl rfl
 have o2 : World.cell? _ ⟨w.heap.size + 1 + 1, 2, none⟩ = some (.int .i64 i.kind) := M.c 2 2 rfl rfl
 have o3 : World.cell? _ ⟨w.heap.size + 1 + 1, 3, none⟩ = some (.int .i64 i.value) := M.c 2 3 rfl rfl
 have o4 : World.cell? _ ⟨w.heap.size + 1 + 1, 4, none⟩ = some (.slice ai i.kids.length ci) := M.c 2 4 rfl rfl
 have o5 : World.cell? _ ⟨w.heap.size + 1 + 1, 5, none⟩ = some (.int .i64 v.kind) := M.c 2 5 rfl rfl
 have o6 : World.cell? _ ⟨w.heap.size + 1 + 1, 6, none⟩ = some (.int .i64 v.value) := M.c 2 6 rfl rfl
 have o7 : World.cell? _ ⟨w.heap.size + 1 + 1, 7, none⟩ = some (.slice av v.kids.length cv) := M.c 2 7 rfl rfl
 have o8 : World.cell? _ ⟨w.heap.size + 1 + 1, 8, none⟩ = some (.int .i64 c) := M.c 2 8 rfl rfl
 have o9 : World.cell? _ ⟨w.heap.size + 1 + 1, 9, none⟩ = some (.slice ab b.length cb) := M.c 2 9 rfl rfl
 have o10 : World.cell? _ ⟨w.heap.size + 1 + 1, 10, none⟩ = some (.slice none 0 0) := M.c 2 10 rfl rfl
 have z0 : World.cell? _ ⟨w.heap.size + 1, 0, none⟩ = some (.int .i64 0) := M.c 1 0 rfl rfl
 have z1 : World.cell? _ ⟨w.heap.size + 1, 1, none⟩ = some (.int .i64 0) := M.c 1 1 rfl rfl
 have z2 : World.cell? _ ⟨w.heap.size + 1, 2, none⟩ = some (.int .i64 0) := M.c 1 2 rfl rfl
 have z3 : World.cell? _ ⟨w.heap.size + 1, 3, none⟩ = some (.int .i64 0) := M.c 1 3 rfl rfl
 have z4 : World.cell? _ ⟨w.heap.size + 1, 4, none⟩ = some (.slice none 0 0) := M.c 1 4 rfl rfl
 have z5 : World.cell? _ ⟨w.heap.size + 1, 5, none⟩ = some (.int .i64 0) := M.c 1 5 rfl rfl
 have z6 : World.cell? _ ⟨w.heap.size + 1, 6, none⟩ = some (.int .i64 0) := M.c 1 6 rfl rfl
 have z7 : World.cell? _ ⟨w.heap.size + 1, 7, none⟩ = some (.slice none 0 0) := M.c 1 7 rfl rfl
 have z8 : World.cell? _ ⟨w.heap.size + 1, 8, none⟩ = some (.int .i64 0) := M.c 1 8 rfl rfl
 have z9 : World.cell? _ ⟨w.heap.size + 1, 9, none⟩ = some (.slice none 0 0) := M.c 1 9 rfl rfl
 have z10 : World.cell? _ ⟨w.heap.size + 1, 10, none⟩ = some (.slice none 0 0) := M.c 1 10 rfl rfl
 have fo := M.f 2 rfl
 have fz := M.f 1 rfl
 have M2 := ((M.set 2 rfl 10 (.slice ae e.length ce)).fill 1 rfl [.int .i64 k, .int .i64 t, .int .i64 i.kind, .int .i64 i.value, .slice ai i.kids.length ci, .int .i64 v.kind, .int .i64 v.value, .slice av v.kids.length cv, .int .i64 c, .slice ab b.length cb, .slice ae e.length ce] rfl).as [.box w.heap.size [.int .i64 k, .int .i64 t, .int .i64 i.kind, .int .i64 i.value, iv, .int .i64 v.kind, .int .i64 v.value, vv, .int .i64 c, bv, ev], .box (w.heap.size + 1) [.int .i64 k, .int .i64 t, .int .i64 i.kind, .int .i64 i.value, .slice ai i.kids.length ci, .int .i64 v.kind, .int .i64 v.value, .slice av v.kids.length cv, .int .i64 c, .slice ab b.length cb, .slice ae e.length ce], .box (w.heap.size + 1 + 1) [.int .i64 k, .int .i64 t, .int .i64 i.kind, .int .i64 i.value, .slice ai i.kids.length ci, .int .i64 v.kind, .int .i64 v.value, .slice av v.kids.length cv, .int .i64 c, .slice ab b.length cb, .slice ae e.length ce], .own S1 (fun w => B8 w (.slice ai i.kids.length ci) i.kids S1), .own S2 (fun w => B8 w (.slice av v.kids.length cv) v.kids S2), .own S3 (fun w => A5 w (.slice ab b.length cb) b S3), .own S4 (fun w => A5 w (.slice ae e.length ce) e S4)] rfl
 simp only [World.setFrom] at M2
 have HM2 := show Hid _ from M2
 clear M M2
 go_wp2_with fail
 have M2 := HM2.out
 have r0 : World.cell? _ ⟨w.heap.size + 1, 0, none⟩ = some (.int .i64 k) := M2.c 1 0 rfl rfl
 have r1 : World.cell? _ ⟨w.heap.size + 1, 1, none⟩ = some (.int .i64 t) := M2.c 1 1 rfl rfl
 have r2 : World.cell? _ ⟨w.heap.size + 1, 2, none⟩ = some (.int .i64 i.kind) := M2.c 1 2 rfl rfl
 have r3 : World.cell? _ ⟨w.heap.size + 1, 3, none⟩ = some (.int .i64 i.value) := M2.c 1 3 rfl rfl
 have r4 : World.cell? _ ⟨w.heap.size + 1, 4, none⟩ = some (.slice ai i.kids.length ci) := M2.c 1 4 rfl rfl
 have r5 : World.cell? _ ⟨w.heap.size + 1, 5, none⟩ = some (.int .i64 v.kind) := M2.c 1 5 rfl rfl
 have r6 : World.cell? _ ⟨w.heap.size + 1, 6, none⟩ = some (.int .i64 v.value) := M2.c 1 6 rfl rfl
 have r7 : World.cell? _ ⟨w.heap.size + 1, 7, none⟩ = some (.slice av v.kids.length cv) := M2.c 1 7 rfl rfl
 have r8 : World.cell? _ ⟨w.heap.size + 1, 8, none⟩ = some (.int .i64 c) := M2.c 1 8 rfl rfl
 have r9 : World.cell? _ ⟨w.heap.size + 1, 9, none⟩ = some (.slice ab b.length cb) := M2.c 1 9 rfl rfl
 have r10 : World.cell? _ ⟨w.heap.size + 1, 10, none⟩ = some (.slice ae e.length ce) := M2.c 1 10 rfl rfl
 have e1 := fun b (h1 : S1 b) => M2.dis 3 4 _ _ b rfl rfl (by omega) h1
 have e2 := fun b (h1 : S1 b) => M2.dis 3 5 _ _ b rfl rfl (by omega) h1
 have e3 := fun b (h1 : S1 b) => M2.dis 3 6 _ _ b rfl rfl (by omega) h1
 have e4 := fun b (h1 : S2 b) => M2.dis 4 5 _ _ b rfl rfl (by omega) h1
 have e5 := fun b (h1 : S2 b) => M2.dis 4 6 _ _ b rfl rfl (by omega) h1
 have e6 := fun b (h1 : S3 b) => M2.dis 5 6 _ _ b rfl rfl (by omega) h1
 refine bodyPost_ret (v := .agg #[.int .i64 k, .int .i64 t, .int .i64 i.kind, .int .i64 i.value, .slice ai i.kids.length ci, .int .i64 v.kind, .int .i64 v.value, .slice av v.kids.length cv, .int .i64 c, .slice ab b.length cb, .slice ae e.length ce]) (by simp [results, Tryz.results162, go_sem, r0, r1, r2, r3, r4, r5, r6, r7, r8, r9, r10]) rfl ⟨ai, ci, av, cv, ab, cb, ae, ce, fun b => S1 b ∨ S2 b ∨ S3 b ∨ S4 b, rfl, (G3.iff ⟨k, t, i, v, c, b, e⟩ _ _).2 ⟨_, _, _, _, S1, S2, S3, S4, rfl, ⟨fun b hb => ⟨.inl hb, e1 b hb, e2 b hb, e3 b hb⟩, fun b hb => ⟨.inr (.inl hb), e4 b hb, e5 b hb⟩, fun b hb => ⟨.inr (.inr (.inl hb)), e6 b hb⟩, fun b hb => .inr (.inr (.inr hb))⟩, M2.o 3 rfl, M2.o 4 rfl, M2.o 5 rfl, M2.o 6 rfl⟩, fun b hb => ?_, M2.below fun _ _ => trivial⟩
 have fin : ∀ (j : Nat) (S : Nat → Prop) (R : World → Prop) (L : List Y5) (W : World), C2 (fun _ => True) (fun _ => True) w W L → L[j]? = some (.own S R) → S b → w.heap.size ≤ b ∧ b < W.heap.size := fun j S R L W M hj hs =>
  ⟨(M.ge _ b (bX1 hj) hs).elim (fun h => h) fun h => absurd bW1 h, M.lt (bX1 hj) hs⟩
 rcases hb with hb | hb | hb | hb
 ·exact fin 3 _ _ _ _ M2 rfl hb
 ·exact fin 4 _ _ _ _ M2 rfl hb
 ·exact fin 5 _ _ _ _ M2 rfl hb
 ·exact fin 6 _ _ _ _ M2 rfl hb
theorem aM4 (φ : Nat → Prop) (u : Value) (p : k6) (w : World) (h : ap5 w φ u p) (hb : p.size ≤ 1048576) :
  Calls Tryz.prog 28 #[u] w fun x w' => ∃ a1 k1 a2 k2 a3 k3 S, x = .returned (.agg #[.slice a1 p.vars.length k1, .slice a2 p.arrays.length k2, .slice a3 p.body.length k3]) ∧ aj9 w' (.agg #[.slice a1 p.vars.length k1, .slice a2 p.arrays.length k2, .slice a3 p.body.length k3]) p S ∧ (∀ b, S b → w.heap.size ≤ b ∧ b < w'.heap.size) ∧ Below w.heap.size w w' := by
 obtain ⟨v1, v2, v3, rfl, h1, h2, h3⟩ := h
 have hsz : p.vars.length + p.arrays.length + l8 p.body ≤ 1048576 := hb
 obtain ⟨W, hW, M⟩ : ∃ W, W = (((w.alloc (.cells #[v1, v2, v3] 43)).alloc (.cells #[.slice none 0 0, .slice none 0 0, .slice none 0 0] 26)).alloc (.cells #[.slice none 0 0, .slice none 0 0, .slice none 0 0] 26)) ∧ C2 (fun _ => True) (fun _ => True) w W [.box w.heap.size [v1, v2, v3], .box (w.heap.size + 1) [.slice none 0 0, .slice none 0 0, .slice none 0 0], .box (w.heap.size + 1 + 1) [.slice none 0 0, .slice none 0 0, .slice none 0 0]] :=
  ⟨_, rfl, (((C2.start fun _ _ => trivial).box _ _).box' _ _ (by simp)).box' _ _ (by simp)⟩
 have HG := show Hid (∀ W', Below w.heap.size w W' → V9 W' v1 p.vars.length 1 (ints p.vars) ∧ V9 W' v2 p.arrays.length 1 (ints p.arrays) ∧ t8 W' φ v3 p.body) from fun W' k =>
  ⟨h1.row.below k, h2.row.below k, t8.nice _ _ _ _ _ _ (N2.below k) h3⟩
 clear h1 h2 h3 hb
 have c0 := M.c 0 0 rfl rfl
 rw [hW] at c0
 have HZ := show Hid _ from hsz
 have HM := show Hid _ from M
 clear M hsz
 go_enter Tryz.func28, Tryz.ntmps28
 go_wp2_with fail
 rw [← hW]
 have M := HM.out
 clear hW HM c0
 refine (aG7 v1 p.vars _ (HG.out _ (M.below fun _ _ => trivial)).1 (by have := HZ.out; omega)).mono ?_
 rintro x w1 ⟨u1, rfl, o1, b1⟩
 obtain ⟨a1, k1, rfl⟩ := o1.form
 replace M := M.callR b1 o1.1
 clear o1 b1
 have x1 := M.c 0 1 rfl rfl
 have y0 := M.c 2 0 rfl rfl
 have fo := M.f 2 rfl
 have M2 := (M.set 2 rfl 0 (.slice a1 p.vars.length k1))
 have HM := show Hid _ from M2
 clear M M2
 go_wp2_with fail
 have M := HM.out
 clear HM x1 y0 fo
 refine (aG7 v2 p.arrays _ (HG.out _ (M.below fun _ _ => trivial)).2.1 (by have := HZ.out; omega)).mono ?_
 rintro x w2 ⟨u2, rfl, o2, b2⟩
 obtain ⟨a2, k2, rfl⟩ := o2.form
 replace M := M.callR b2 o2.1
 clear o2 b2
 have x2 := M.c 0 2 rfl rfl
 have y1 := M.c 2 1 rfl rfl
 have fo := M.f 2 rfl
 have M2 := (M.set 2 rfl 1 (.slice a2 p.arrays.length k2))
 have HM := show Hid _ from M2
 clear M M2
 go_wp2_with fail
 have M := HM.out
 clear HM x2 y1 fo
 refine (aq8 p.body (fun s _ => a85 s) φ v3 _ (HG.out _ (M.below fun _ _ => trivial)).2.2 (by have := HZ.out; omega)).mono ?_
 rintro x w3 ⟨a3, k3, S3, rfl, hO, hS, b3⟩
 replace M := M.callO b3 (S := S3) (R := fun w => A5 w (.slice a3 p.body.length k3) p.body S3) (fun w w' h hs => A5.same h hs) hO (fun b hb => hS b hb)
 clear hO hS b3
 have y0 : World.cell? _ ⟨w.heap.size + 1 + 1, 0, none⟩ = some (.slice a1 p.vars.length k1) := M.c 2 0 rfl rfl
 have y1 : World.cell? _ ⟨w.heap.size + 1 + 1, 1, none⟩ = some (.slice a2 p.arrays.length k2) := M.c 2 1 rfl rfl
 have y2 : World.cell? _ ⟨w.heap.size + 1 + 1, 2, none⟩ = some (.slice none 0 0) := M.c 2 2 rfl rfl
 have z0 := M.c 1 0 rfl rfl
 have z1 := M.c 1 1 rfl rfl
 have z2 := M.c 1 2 rfl rfl
 have fo := M.f 2 rfl
 have fz := M.f 1 rfl
 have M2 := (M.set 2 rfl 2 (.slice a3 p.body.length k3)).fill 1 rfl [.slice a1 p.vars.length k1, .slice a2 p.arrays.length k2, .slice a3 p.body.length k3] rfl
 simp only [World.setFrom] at M2
 have HM2 := show Hid _ from M2
 clear M M2
 go_wp2_with fail
 have M2 := HM2.out
 have r0 : World.cell? _ ⟨w.heap.size + 1, 0, none⟩ = some (.slice a1 p.vars.length k1) := M2.c 1 0 rfl rfl
 have r1 : World.cell? _ ⟨w.heap.size + 1, 1, none⟩ = some (.slice a2 p.arrays.length k2) := M2.c 1 1 rfl rfl
 have r2 : World.cell? _ ⟨w.heap.size + 1, 2, none⟩ = some (.slice a3 p.body.length k3) := M2.c 1 2 rfl rfl
 have fin : ∀ (b j : Nat) (r : Y5) (L : List Y5) (W : World), C2 (fun _ => True) (fun _ => True) w W L → L[j]? = some r → r.blk b → w.heap.size ≤ b ∧ b < W.heap.size := fun b j r L W M hj hs =>
  ⟨(M.ge _ b (bX1 hj) hs).elim (fun h => h) fun h => absurd bW1 h, M.lt (bX1 hj) hs⟩
 have e1 := fun b => M2.dis 3 4 _ _ b rfl rfl (by omega)
 have e2 := fun b => M2.dis 3 5 _ _ b rfl rfl (by omega)
 have e3 := fun b => M2.dis 4 5 _ _ b rfl rfl (by omega)
 refine bodyPost_ret (v := .agg #[.slice a1 p.vars.length k1, .slice a2 p.arrays.length k2, .slice a3 p.body.length k3]) (by simp [results, Tryz.results28, go_sem, r0, r1, r2]) rfl ⟨a1, k1, a2, k2, a3, k3, fun b => (Value.slice a1 p.vars.length k1).ownBlock = some b ∨ (Value.slice a2 p.arrays.length k2).ownBlock = some b ∨ S3 b, rfl,
  ⟨_, _, _, S3, rfl, M2.r 3 rfl, M2.r 4 rfl, M2.o 5 rfl, fun g hg => ⟨.inl hg, e2 g hg, e1 g hg⟩, fun g hg => ⟨.inr (.inl hg), e3 g hg⟩, fun b hb => .inr (.inr hb)⟩, fun b hb => ?_, M2.below fun _ _ => trivial⟩
 rcases hb with hb | hb | hb
 ·exact fin b 3 _ _ _ M2 rfl hb
 ·exact fin b 4 _ _ _ M2 rfl hb
 ·exact fin b 5 _ _ _ M2 rfl hb
theorem W7 (us : List Value) : ∀ (c ys : List Value) (p : Nat), c.length ≤ p → setFrom (c ++ ys) p us = c ++ setFrom ys (p - c.length) us := by
 induction us with
 | nil => intro c ys p _; rfl
 | cons u r ih =>
  intro c ys p hp
  simp only [setFrom]
  rw [List.set_append_right _ _ hp, ih _ _ _ (by omega), show p + 1 - c.length = p - c.length + 1 by omega]
theorem Y7 (us : List Value) : ∀ (c ys : List Value) (p : Nat), p + us.length ≤ c.length → setFrom (c ++ ys) p us = setFrom c p us ++ ys := by
 induction us with
 | nil => intro c ys p _; rfl
 | cons u r ih =>
  intro c ys p hp
  simp only [bV6] at hp
  simp only [setFrom]
  rw [List.set_append_left _ _ (by omega), ih _ _ _ (by simp; omega)]
theorem ao8 {c us : List Value} (h : us.length = c.length) : setFrom c 0 us = us := by
 have h1 := T2 us c 0 (by omega)
 rw [bZ2, bW5 (by rw [L1]; omega)] at h1
 simpa using h1
theorem G5.len {w : World} {e : b5} {S : Nat → Prop} {c : List Value} (h : G5 w e S c) : c.length = 3 := by
 obtain ⟨kv, rfl, _⟩ := (G5.iff e S c).1 h; rfl
theorem G3.len {w : World} {s : b6} {S : Nat → Prop} {c : List Value} (h : G3 w s S c) : c.length = 11 := by
 obtain ⟨_, _, _, _, _, _, _, _, rfl, _⟩ := (G3.iff s S c).1 h; rfl
theorem t9.focus {w : World} : ∀ {ls : List b5} {S : Nat → Prop} {xs : List Value}, t9 w ls S xs → ∀ (i : Nat) (hi : i < ls.length), ∃ (c : List Value) (Sc : Nat → Prop), G5 w ls[i] Sc c ∧ (∀ b, Sc b → S b) ∧ (∀ j, j < 3 → xs[i * 3 + j]? = c[j]?) ∧
  ∀ (w' : World) (e' : b5) (c' : List Value), (∀ b, S b → ¬ Sc b → b < w.heap.size → w'.heap[b]? = w.heap[b]?) → G5 w' e' Sc c' → t9 w' (ls.set i e') S (setFrom xs (i * 3) c')
 | [], _, _, _, i, hi => by simp at hi
 | e :: r, S, xs, ⟨c, ys, S1, S2, h1, h2, h3, h4, h5⟩, i, hi => by
  have hc := h4.len
  subst h1
  cases i with
  | zero =>
   refine ⟨c, S1, h4, fun b hb => (h2 b hb).1, fun j hj => by rw [bX7 (by omega)]; simp, fun w' e' c' hs hO => ?_⟩
   refine ⟨c', ys, S1, S2, ?_, h2, h3, hO, t9.same r S2 ys h5 fun b hb hlt => hs b (h3 b hb) (fun h => (h2 b h).2 hb) hlt⟩
   rw [Nat.zero_mul, Y7 c' c ys 0 (by rw [hO.len]; omega), ao8 (by rw [hO.len, hc])]
  | succ i =>
   obtain ⟨d, Sc, k1, k2, k3, k4⟩ := t9.focus h5 i (by simpa using hi)
   refine ⟨d, Sc, k1, fun b hb => h3 b (k2 b hb), fun j hj => ?_, fun w' e' c' hs hO => ?_⟩
   ·rw [bZ0 (by rw [hc, bY3]; omega), ← k3 j hj]
    congr 1
    rw [hc, bY3]; omega
   ·refine ⟨c, setFrom ys (i * 3) c', S1, S2, ?_, h2, h3, G5.same e S1 c h4 fun b hb hlt => hs b (h2 b hb).1 (fun h => (h2 b hb).2 (k2 b h)) hlt, k4 w' e' c' (fun b hb hn hlt => hs b (h3 b hb) hn hlt) hO⟩
    rw [W7 c' c ys _ (by rw [hc, bY3]; omega), hc, bY3, Nat.add_sub_cancel]
theorem t7.focus {w : World} : ∀ {ls : List b6} {S : Nat → Prop} {xs : List Value}, t7 w ls S xs → ∀ (i : Nat) (hi : i < ls.length), ∃ (c : List Value) (Sc : Nat → Prop), G3 w ls[i] Sc c ∧ (∀ b, Sc b → S b) ∧ (∀ j, j < 11 → xs[i * 11 + j]? = c[j]?) ∧
  ∀ (w' : World) (e' : b6) (c' : List Value), (∀ b, S b → ¬ Sc b → b < w.heap.size → w'.heap[b]? = w.heap[b]?) → G3 w' e' Sc c' → t7 w' (ls.set i e') S (setFrom xs (i * 11) c')
 | [], _, _, _, i, hi => by simp at hi
 | e :: r, S, xs, ⟨c, ys, S1, S2, h1, h2, h3, h4, h5⟩, i, hi => by
  have hc := h4.len
  subst h1
  cases i with
  | zero =>
   refine ⟨c, S1, h4, fun b hb => (h2 b hb).1, fun j hj => by rw [bX7 (by omega)]; simp, fun w' e' c' hs hO => ?_⟩
   refine ⟨c', ys, S1, S2, ?_, h2, h3, hO, t7.same r S2 ys h5 fun b hb hlt => hs b (h3 b hb) (fun h => (h2 b h).2 hb) hlt⟩
   rw [Nat.zero_mul, Y7 c' c ys 0 (by rw [hO.len]; omega), ao8 (by rw [hO.len, hc])]
  | succ i =>
   obtain ⟨d, Sc, k1, k2, k3, k4⟩ := t7.focus h5 i (by simpa using hi)
   refine ⟨d, Sc, k1, fun b hb => h3 b (k2 b hb), fun j hj => ?_, fun w' e' c' hs hO => ?_⟩
   ·rw [bZ0 (by rw [hc, bY3]; omega), ← k3 j hj]
    congr 1
    rw [hc, bY3]; omega
   ·refine ⟨c, setFrom ys (i * 11) c', S1, S2, ?_, h2, h3, G3.same e S1 c h4 fun b hb hlt => hs b (h2 b hb).1 (fun h => (h2 b hb).2 (k2 b h)) hlt, k4 w' e' c' (fun b hb hn hlt => hs b (h3 b hb) hn hlt) hO⟩
    rw [W7 c' c ys _ (by rw [hc, bY3]; omega), hc, bY3, Nat.add_sub_cancel]
def mxE (ks : List b5) (k : Int) (i : Nat) : List b5 := (ao2 ks k).take i ++ ks.drop i
theorem ab6 : ∀ (ks : List b5) (k : Int), (ao2 ks k).length = ks.length
 | [], _ => rfl
 | _ :: r, k => by simp [ao2, ab6 r]
theorem a23 : ∀ (ks : List b5) (k : Int) (i : Nat) (h : i < ks.length), (ao2 ks k)[i]? = some (mkE ks[i] (k + 2 * s6 (ks.take i)))
 | [], _, i, h => by simp at h
 | e :: r, k, 0, _ => by simp [ao2, s6]
 | e :: r, k, i + 1, h => by
  simp only [ao2, List.getElem?_cons_succ, List.getElem_cons_succ, List.take_succ_cons, s6]
  rw [a23 r _ i (by simpa using h)]
  congr 2
  simp only [Int.natCast_add, Int.natCast_one]
  omega
theorem bB4 (ks : List b5) (k : Int) {i : Nat} (h : i ≤ ks.length) : (mxE ks k i).length = ks.length := by simp [mxE, ab6]; omega
theorem bs9 (ks : List b5) (k : Int) : mxE ks k 0 = ks := by simp [mxE]
theorem bB5 (ks : List b5) (k : Int) : mxE ks k ks.length = ao2 ks k := by
 unfold mxE; rw [List.drop_length, List.append_nil, bW5 (by rw [ab6]; exact bW6 _)]
theorem bK3 (ks : List b5) (k : Int) {i : Nat} (h : i < ks.length) : (mxE ks k i)[i]? = some ks[i] := by
 unfold mxE
 rw [bZ0 (by rw [List.length_take]; omega), List.length_take, ab6, Nat.min_eq_left (by omega), Nat.sub_self, List.getElem?_drop, bZ5, bW0 h]
theorem bt0 (ks : List b5) (k : Int) {i : Nat} (h : i < ks.length) : mxE ks k (i + 1) = (mxE ks k i).set i (mkE ks[i] (k + 2 * s6 (ks.take i))) := by
 have hl : ((ao2 ks k).take i).length = i := by rw [List.length_take, ab6]; omega
 have hg := a23 ks k i h
 have hi : i < (ao2 ks k).length := by rw [ab6]; exact h
 rw [bW0 hi] at hg
 have hg' := Option.some.inj hg
 unfold mxE
 rw [List.set_append_right _ _ (by omega), hl, Nat.sub_self, List.drop_eq_getElem_cons h, List.set_cons_zero, m8 _ _ hi, hg']
 simp
def bS7 (e : b5) : Prop := ∀ (v : Value) (k : Int) (w : World) (S : Nat → Prop), B8 w v e.kids S → 0 ≤ k → k + 2 * s6 e.kids ≤ 9000000000000000000 →
 Calls Tryz.prog 165 #[v, .int .i64 k] w fun x w' => x = .returned (.int .i64 (k + 2 * s6 e.kids)) ∧ B8 w' v (ao2 e.kids k) S ∧ D0 (fun b => ¬ S b) w w'
theorem av0 (ks : List b5) (ih : ∀ e ∈ ks, bS7 e) (v : Value) (k0 : Int) (w : World) (S : Nat → Prop) (h : B8 w v ks S) (hk0 : 0 ≤ k0) (hkb : k0 + 2 * s6 ks ≤ 9000000000000000000) :
  Calls Tryz.prog 165 #[v, .int .i64 k0] w fun x w' => x = .returned (.int .i64 (k0 + 2 * s6 ks)) ∧ B8 w' v (ao2 ks k0) S ∧ D0 (fun b => ¬ S b) w w' := by
 obtain ⟨xs, S', ho, hg, hs, hx⟩ := h
 obtain ⟨a, cap, rfl⟩ := an0 ho
 have hm : ks.length ≤ 9223372036854775807 := (ab1 ho).len
 have HG := show Hid _ from hg
 have HS := show Hid _ from hs
 have HX := show Hid _ from hx
 have HO := show Hid _ from ho
 clear hg hs hx ho
 go_enter Tryz.func165, Tryz.ntmps165
 go_wp2_with fail
 go_loopw [1, 5] (fun q i wr => ∃ (j : Nat) (y : Int) (xs : List Value), j ≤ ks.length ∧ i = .int .i64 j ∧ q = .int .i64 y ∧ y = k0 + 2 * s6 (ks.take j) ∧ wr.ownsRow 0 104 3 (.slice a ks.length cap) ks.length xs ∧ t9 wr (mxE ks k0 j) S' xs ∧ D0 (fun b => ¬ S b) w wr) (fun _ i _ => ks.length - (intOf i).toNat)
 case atStart => exact ⟨0, k0, xs, bX5 _, rfl, rfl, by simp [s6], HO.out, by rw [bs9]; exact HX.out, D0.refl _ _⟩
 case round =>
  obtain ⟨j, y, xs, hj, rfl, rfl, hy, ho, hx, hkp⟩ := hrel
  have HY := show Hid _ from hy
  have HKP := show Hid _ from hkp
  have HX1 := show Hid _ from hx
  have HO1 := show Hid _ from ho
  clear hy hkp hx ho
  by_cases hlt : j < ks.length
  ·have h1 := L6 hlt
   have h2 := aO3 ks (j + 1)
   have hy0 : 0 ≤ y := by have := HY.out; omega
   have hy1 : y + 2 + 2 * t2 ks[j] ≤ 9000000000000000000 := by have := HY.out; omega
   have hlen := bB4 ks k0 hj
   obtain ⟨c, Sc, f1, f2, f3, f4⟩ := HX1.out.focus j (by omega)
   have hge := bK3 ks k0 hlt
   rw [bW0 (by omega)] at hge
   rw [Option.some.inj hge] at f1
   obtain ⟨kv, rfl, hkv⟩ := (G5.iff _ _ _).1 f1
   have F3 := show Hid _ from f3
   have F4 := show Hid _ from f4
   have F2 := show Hid _ from f2
   obtain ⟨g, cap', hv, -, hg2, hg3, -, -, hfr, hcell⟩ := (R3.mk' HO1.out).open (by omega)
   cases hv
   have hxl : xs.length = ks.length * 3 := HO1.out.1
   have e0 := hcell (j * 3) (.int .i64 ks[j].kind) (by simpa using f3 0 (by omega))
   have e1 := hcell (j * 3 + 1) (.int .i64 ks[j].value) ((f3 1 (by omega)).trans rfl)
   have e2 := hcell (j * 3 + 2) kv ((f3 2 (by omega)).trans rfl)
   have hSg : ¬ S' g := (HG.out g rfl).2
   have HSG := show Hid _ from hSg
   have HK := show Hid _ from hkv
   have HXL := show Hid _ from hxl
   have HH := show Hid _ from And.intro h1 h2
   clear hcell f1 f2 f3 f4 hkv hge hlen hSg hxl h1 h2
   go_wp2_with fail
   refine (ih _ (bX2 hlt) kv (y + 1 + 1) _ Sc (B8.same HK.out fun b hb hl => ?_) (by omega) ?_).mono ?_
   ·have hbg : b ≠ g := fun e => HSG.out (by rw [← e]; exact F2.out b hb)
    rw [Below.heap_setCell _ _ _ _ hbg, Below.heap_setCell _ _ _ _ hbg]
   ·have : s6 ks[j].kids = t2 ks[j] := (by cases ks[j]; rfl)
    omega
   rintro x w2 ⟨rfl, hk2, kp2⟩
   have hkids : s6 ks[j].kids = t2 ks[j] := (by cases ks[j]; rfl)
   rw [hkids]
   have r1 := ((R3.mk' HO1.out).setCell (j := j * 3) (by rw [HXL.out]; omega) (.int .i64 y)).setCell (j := j * 3 + 1) (by rw [bX3, HXL.out]; omega) (.int .i64 (y + 1))
   have hxs : (xs.set (j * 3) (.int .i64 y)).set (j * 3 + 1) (.int .i64 (y + 1)) = setFrom xs (j * 3) [.int .i64 y, .int .i64 (y + 1), kv] := by
    simp only [setFrom]
    have h3 : xs[j * 3 + 1 + 1]? = some kv := (F3.out 2 (by omega)).trans rfl
    apply List.ext_getElem?
    intro q
    rw [List.getElem?_set (i := j * 3 + 1 + 1)]
    split
    ·rename_i e
     subst e
     rw [List.getElem?_set_ne (by omega), List.getElem?_set_ne (by omega), h3]
     have := (bW9.1 h3).1
     simp [this]
    ·rfl
   rw [hxs] at r1
   have hne : ¬ Sc g := fun h => HSG.out (F2.out g h)
   have r2 := I1 (I2 r1.1 (bX5 _)) (w' := w2) fun g' hg' => by
    cases hg'
    exact kp2.block g (by simp; exact hg3) hne
   have hx2 := F4.out w2 (mkE ks[j] y) [.int .i64 y, .int .i64 (y + 1), kv] (fun b hb hn hl => by
    have hbg : b ≠ g := fun e => HSG.out (by rw [← e]; exact hb)
    rw [kp2.block b (by simp; exact hl) hn, Below.heap_setCell _ _ _ _ hbg, Below.heap_setCell _ _ _ _ hbg]) ((G5.iff _ _ _).2 ⟨kv, by cases ks[j]; rfl, by
     have hy2 : y + 1 + 1 = y + 2 := by omega
     rw [hy2] at hk2
     cases hkj : ks[j] with
     | mk a1 b1 c1 => rw [hkj] at hk2; exact hk2⟩)
   have hmx := bt0 ks k0 hlt
   rw [← HY.out] at hmx
   rw [← hmx] at hx2
   have hkept : D0 (fun b => ¬ S b) w w2 := HKP.out.trans (((D0.setCell wr g (j * 3) (.int .i64 y)).trans (D0.setCell _ g (j * 3 + 1) (.int .i64 (y + 1)))).mono (fun b hb e => hb (by rw [e]; exact (HG.out g rfl).1)) |>.trans (kp2.mono fun b hb h => hb (HS.out b (F2.out b h))))
   have HF := show Hid _ from And.intro r2 (And.intro hx2 hkept)
   have hsz0 : (0 : Int) ≤ t2 ks[j] := by omega
   clear r1 r2 hx2 hkept hmx hxs hkids hk2 kp2
   obtain ⟨z, hz⟩ : ∃ z : Nat, z = t2 ks[j] := ⟨_, rfl⟩
   have HZ := show Hid _ from hz
   rw [← hz] at hy1 hsz0 ⊢
   clear hz
   go_wp2_with fail
   exact ⟨⟨j + 1, _, _, by omega, by go_num, rfl, by rw [HH.out.1, HY.out, ← HZ.out]; omega, HF.out.1, HF.out.2.1, HF.out.2.2⟩, by simp [intOf]; omega⟩
  ·have hjn : j = ks.length := by omega
   subst hjn
   go_wp2_with fail
   go_ret
   exact ⟨C1 (by have := HY.out; rw [bW5 (bW6 _)] at this; exact this), ⟨xs, S', by rw [ab6]; exact HO1.out, HG.out, HS.out, by rw [← bB5]; exact HX1.out⟩, HKP.out⟩
section
variable {φ ψ : Nat → Prop} {w0 w w' : World} {L : List Y5}
theorem t9.at : ∀ {ks : List b5} {S : Nat → Prop} {xs : List Value}, t9 w ks S xs → ∀ (i : Nat) (hi : i < ks.length), ∃ kv, xs[i * 3]? = some (.int .i64 ks[i].kind) ∧ xs[i * 3 + 1]? = some (.int .i64 ks[i].value) ∧ xs[i * 3 + 2]? = some kv ∧ B8 w kv ks[i].kids S
 | [], _, _, _, i, hi => by simp at hi
 | e :: r, S, _, ⟨c, ys, S1, S2, h1, h2, h3, h4, h5⟩, i, hi => by
  obtain ⟨kv, rfl, hk⟩ := (G5.iff e S1 c).1 h4
  subst h1
  cases i with
  | zero => exact ⟨kv, rfl, rfl, rfl, hk.mono fun b hb => (h2 b hb).1⟩
  | succ i =>
   obtain ⟨kv', a, b, d, f⟩ := t9.at h5 i (by simpa using hi)
   refine ⟨kv', ?_, ?_, ?_, f.mono h3⟩ <;> (rw [bY3]; simpa [Nat.add_assoc] using by assumption)
theorem B8.open {v : Value} {ks : List b5} {S : Nat → Prop} (h : B8 w v ks S) : ∃ a cap, v = .slice a ks.length cap ∧ ks.length ≤ cap ∧ ks.length ≤ 9223372036854775807 ∧ cap ≤ 9223372036854775807 ∧
  ∀ i (hi : i < ks.length), ∃ b off kv, a = some ⟨b, off, none⟩ ∧ b < w.heap.size ∧ S b ∧ w.cell? ⟨b, off + i * 3, none⟩ = some (.int .i64 ks[i].kind) ∧ w.cell? ⟨b, off + i * 3 + 1, none⟩ = some (.int .i64 ks[i].value) ∧ w.cell? ⟨b, off + i * 3 + 2, none⟩ = some kv ∧ B8 w kv ks[i].kids S := by
 obtain ⟨xs, S', h2, h3, h4, h5⟩ := h
 obtain ⟨hl, a, cap, hv, n1, n2, n3⟩ := H1 (φ := fun g => S g ∧ ¬ S' g) h2 h3
 unfold maxLen at n2
 refine ⟨a, cap, hv, n1, by omega, by omega, fun i hi => ?_⟩
 obtain ⟨b, off, he, hb, hf, hc⟩ := n3 (by omega)
 obtain ⟨kv, e0, e1, e2, hk⟩ := h5.at i hi
 exact ⟨b, off, kv, he, hb, hf.1, hc _ _ e0, hc _ _ e1, hc _ _ e2, hk.mono h4⟩
theorem B8.nil (w : World) (S : Nat → Prop) : B8 w (.slice none 0 0) [] S := ⟨[], fun _ => False, World.ownsRow_nil _ _ _ _, (fun g hg => by cases hg), fun _ h => h.elim, rfl⟩
end
theorem ao9 (ks : List b5) (v : Value) (k0 : Int) (w : World) (S : Nat → Prop) (h : B8 w v ks S) (hk0 : 0 ≤ k0) (hkb : k0 + 2 * s6 ks ≤ 9000000000000000000) :
  Calls Tryz.prog 165 #[v, .int .i64 k0] w fun x w' => x = .returned (.int .i64 (k0 + 2 * s6 ks)) ∧ B8 w' v (ao2 ks k0) S ∧ D0 (fun b => ¬ S b) w w' :=
 av0 ks (fun e _ => b5.ind (P := bS7) (fun _ _ ks ih v k w S h h0 hb => av0 ks ih v k w S h h0 hb) e) v k0 w S h hk0 hkb
end Go.Proofs.YthikdkjjdeehoaaGreat
