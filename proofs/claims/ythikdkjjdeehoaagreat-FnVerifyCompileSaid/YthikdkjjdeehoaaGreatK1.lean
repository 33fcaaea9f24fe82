/-
  Texts of this claim, part 1: what the functions on the way do, and plain laws. Conditions: as each statement says.
-/
import Derived.WalkKit
import Derived.ProofKit
import Derived.Handy
import Derived.WalkSmall
import Derived.Deep.QuietTactic
import Derived.BigQuiet
import Derived.StillTailTactics
import Derived.Test.YthikdkjjdeehoaaGreatRows
import Derived.OpenShut
import Derived.ChangeOld
import Derived.Deep.Slices
import Derived.Lib.SmallJoins
import Derived.Deep.Quiet
import Derived.StillTail
import Derived.Maps.AppendAt
import Derived.ArgAppend
import Derived.Deep.Upon
import Derived.Laws.Small
set_option maxRecDepth 100000
set_option maxHeartbeats 16000000
open Array renaming replicate → cb8
open Bool renaming and_eq_true → b85
open Inhabited renaming default → b81
open List renaming all_eq_true → b93, append_assoc → cc0, eq_nil_of_length_eq_zero → ca3, getD_eq_getElem?_getD → b90, getElem?_append_left → cb9, getElem?_append_right → cc9, getElem?_cons_zero → b95, getElem?_eq_getElem → b89, getElem?_eq_none → cb3, getElem?_eq_some_iff → b96, getElem?_replicate → cc5, getElem_mem → ca5, length_append → b83, length_cons → b84, length_nil → b86, length_set → b97, map_cons → cc2, mem_append → ca1, mem_cons → cb7, mem_cons_of_mem → ca9, mem_cons_self → ca6, mem_of_getElem? → ca7, mem_range → cc6, mem_singleton → ca4, range → ca2, replicate → b82, take_of_length_le → b98
open Nat renaming add_zero → cc8, le_refl → b94, le_trans → cb5, lt_of_lt_of_le → cd2, lt_or_ge → ca8, mul_le_mul_right → cc7, succ_mul → cc1, zero_add → cc3, zero_le → cb1
open Option renaming isSome_iff_exists → cd0, map_eq_some_iff → b92
open True renaming intro → b91

namespace Go.Proofs.YthikdkjjdeehoaaGreat
set_option linter.unusedVariables false
set_option linter.unusedSimpArgs false
open Go Go.RowKit
def N3 (w : World) (v : Value) (n sz : Nat) (xs : List Value) : Prop :=
 xs.length = n * sz ∧ ∃ a cap, v = .slice a n cap ∧ n ≤ cap ∧ cap ≤ maxLen ∧
  (0 < n → ∃ b off, a = some ⟨b, off, none⟩ ∧ b < w.heap.size ∧ ∀ j u, xs[j]? = some u → w.cell? ⟨b, off + j, none⟩ = some u)
theorem K0 {W w1 : World} (hb : Below W.heap.size W w1) : (∀ b o, b < W.heap.size → w1.cell? ⟨b, o, none⟩ = W.cell? ⟨b, o, none⟩) ∧ (∀ b o, b < W.heap.size → w1.frozen? ⟨b, o, none⟩ = W.frozen? ⟨b, o, none⟩) :=
 ⟨fun b o h => hb.cell (p := ⟨b, o, none⟩) h, fun b o h => hb.frozen (p := ⟨b, o, none⟩) h⟩
theorem N3.below {w w' : World} {v : Value} {n sz : Nat} {xs : List Value} (h : N3 w v n sz xs) (hb : Below w.heap.size w w') : N3 w' v n sz xs := by
 obtain ⟨hl, a, cap, rfl, h1, h2, h3⟩ := h
 refine ⟨hl, a, cap, rfl, h1, h2, fun hn => ?_⟩
 obtain ⟨b, off, rfl, hbk, hc⟩ := h3 hn
 exact ⟨b, off, rfl, cd2 hbk hb.size, fun j u hj => ((K0 hb).1 b _ hbk).trans (hc j u hj)⟩
theorem N3.len {w : World} {v : Value} {n sz : Nat} {xs : List Value} (h : N3 w v n sz xs) : n ≤ 9223372036854775807 := by
 obtain ⟨_, a, cap, rfl, h1, h2, _⟩ := h; unfold maxLen at h2; omega
theorem N3.nil (w : World) (sz : Nat) : N3 w (.slice none 0 0) 0 sz [] := ⟨by simp, none, 0, rfl, b94 _, by unfold maxLen; omega, fun h => absurd h (by omega)⟩
theorem N3.open {w : World} {v : Value} {n sz : Nat} {xs : List Value} (h : N3 w v n sz xs) : ∃ a cap, v = .slice a n cap ∧ n ≤ cap ∧ n ≤ 9223372036854775807 ∧ cap ≤ 9223372036854775807 ∧
  ∀ i, i < n → ∃ b off, a = some ⟨b, off, none⟩ ∧ b < w.heap.size ∧ ∀ j, j < sz → w.cell? ⟨b, off + i * sz + j, none⟩ = xs[i * sz + j]? := by
 obtain ⟨hl, a, cap, rfl, h1, h2, h3⟩ := h
 unfold maxLen at h2
 refine ⟨a, cap, rfl, h1, by omega, by omega, fun i hi => ?_⟩
 obtain ⟨b, off, rfl, hbk, hc⟩ := h3 (by omega)
 refine ⟨b, off, rfl, hbk, fun j hj => ?_⟩
 have hlt : i * sz + j < xs.length := by
  rw [hl]; have := cc7 sz (Nat.succ_le_of_lt hi); rw [cc1] at this; omega
 rw [b89 hlt, Nat.add_assoc]
 exact hc _ _ (b89 hlt)
theorem N3.form {w : World} {v : Value} {n sz : Nat} {xs : List Value} (h : N3 w v n sz xs) : ∃ a cap, v = .slice a n cap := by
 obtain ⟨_, a, cap, hv, _⟩ := h
 exact ⟨a, cap, hv⟩
theorem N3.open1 {w : World} {v : Value} {n : Nat} {xs : List Value} (h : N3 w v n 1 xs) : ∃ a cap, v = .slice a n cap ∧ n ≤ cap ∧ n ≤ 9223372036854775807 ∧ cap ≤ 9223372036854775807 ∧
  ∀ i, i < n → ∃ b off, a = some ⟨b, off, none⟩ ∧ b < w.heap.size ∧ w.cell? ⟨b, off + i, none⟩ = xs[i]? := by
 obtain ⟨a, cap, h0, h1, h2, h3, h4⟩ := h.open
 refine ⟨a, cap, h0, h1, h2, h3, fun i hi => ?_⟩
 obtain ⟨b, off, e, hb, hc⟩ := h4 i hi
 exact ⟨b, off, e, hb, by simpa using hc 0 (by omega)⟩
theorem ak5 {w : World} {base : Nat} {e : TypeId} {sz : Nat} {v : Value} {n : Nat} {xs : List Value} (h : w.ownsRow base e sz v n xs) : N3 w v n sz xs := by
 refine ⟨h.1, ?_⟩
 rcases h.2 with ⟨rfl, rfl⟩ | ⟨g, cap, cur, rfl, hbg, hg, hnc, hcm, hcs, ht⟩
 ·exact ⟨none, 0, rfl, b94 _, by unfold maxLen; omega, fun h => absurd h (by omega)⟩
 ·refine ⟨some ⟨g, 0, none⟩, cap, rfl, hnc, hcm, fun _ => ⟨g, 0, rfl, (Array.getElem?_eq_some_iff.1 hg).1, fun j u hj => ?_⟩⟩
  have hadd : (⟨g, 0, none⟩ : Addr).add j = ⟨g, 0 + j, none⟩ := by unfold Addr.add; split <;> simp_all
  rw [← hadd]
  exact h.cells (g := g) rfl j u hj
theorem M5 {w : World} {base base' : Nat} {e : TypeId} {sz : Nat} {v : Value} {n : Nat} {xs : List Value} (h : w.ownsRow base e sz v n xs) (hb : base' ≤ base) : w.ownsRow base' e sz v n xs := by
 refine ⟨h.1, ?_⟩
 rcases h.2 with hn | ⟨g, cap, cur, rfl, hbg, r⟩
 ·exact .inl hn
 ·exact .inr ⟨g, cap, cur, rfl, by omega, r⟩
def I8 (w : World) (lo hi : Nat) (e : TypeId) (sz : Nat) (v : Value) (n : Nat) (xs : List Value) : Prop :=
 w.ownsRow lo e sz v n xs ∧ ∀ g, v.ownBlock = some g → g < hi
structure Out (lo hi : Nat) (w w' : World) : Prop where
 os : w'.os = w.os
 tape : w'.tape = w.tape
 output : w'.output = w.output
 size : w.heap.size ≤ w'.heap.size
 block : ∀ k, k < w.heap.size → (k < lo ∨ hi ≤ k) → w'.heap[k]? = w.heap[k]?
theorem Out.refl (lo hi : Nat) (w : World) : Out lo hi w w := ⟨rfl, rfl, rfl, b94 _, fun _ _ _ => rfl⟩
theorem Out.trans {lo hi : Nat} {a b c : World} (h : Out lo hi a b) (k : Out lo hi b c) : Out lo hi a c :=
 ⟨k.os.trans h.os, k.tape.trans h.tape, k.output.trans h.output, cb5 h.size k.size, fun i hi ho => (k.block i (cd2 hi h.size) ho).trans (h.block i hi ho)⟩
theorem Out.wide {lo hi lo' hi' : Nat} {a b : World} (h : Out lo hi a b) (h1 : lo' ≤ lo) (h2 : hi ≤ hi') : Out lo' hi' a b :=
 ⟨h.os, h.tape, h.output, h.size, fun k hk ho => h.block k hk (by omega)⟩
theorem Out.below {lo hi B : Nat} {a b : World} (h : Out lo hi a b) (h1 : B ≤ lo) (h2 : B ≤ a.heap.size) : Below B a b :=
 ⟨h.os, h.tape, h.output, h.size, fun k hk => h.block k (by omega) (by omega)⟩
theorem Out.of_below {lo hi B : Nat} {a b : World} (h : Below B a b) (h1 : a.heap.size ≤ B) : Out lo hi a b :=
 ⟨h.os, h.tape, h.output, h.size, fun k hk _ => h.block k (by omega)⟩
theorem Out.setCell {lo hi : Nat} {a w : World} (h : Out lo hi a w) {p : Addr} (h1 : lo ≤ p.block) (h2 : p.block < hi) (u : Value) : Out lo hi a (w.setCell p u) :=
 h.trans ⟨rfl, rfl, rfl, by simp [World.setCell], fun k _ ho => Below.heap_setCell _ _ _ _ (by omega)⟩
theorem I8.lt {w : World} {lo hi : Nat} {e : TypeId} {sz : Nat} {v : Value} {n : Nat} {xs : List Value} (h : I8 w lo hi e sz v n xs) : ∀ g, v.ownBlock = some g → lo ≤ g ∧ g < hi ∧ g < w.heap.size :=
 fun g hg => ⟨(h.1.lt g hg).1, h.2 g hg, (h.1.lt g hg).2⟩
theorem I8.row {w : World} {lo hi : Nat} {e : TypeId} {sz : Nat} {v : Value} {n : Nat} {xs : List Value} (h : I8 w lo hi e sz v n xs) : N3 w v n sz xs := ak5 h.1
theorem I8.mk' {w : World} {lo : Nat} {e : TypeId} {sz : Nat} {v : Value} {n : Nat} {xs : List Value} (h : w.ownsRow lo e sz v n xs) : I8 w lo w.heap.size e sz v n xs :=
 ⟨h, fun g hg => (h.lt g hg).2⟩
theorem I8.wide {w : World} {lo hi lo' hi' : Nat} {e : TypeId} {sz : Nat} {v : Value} {n : Nat} {xs : List Value} (h : I8 w lo hi e sz v n xs) (h1 : lo' ≤ lo) (h2 : hi ≤ hi') : I8 w lo' hi' e sz v n xs :=
 ⟨M5 h.1 h1, fun g hg => cd2 (h.2 g hg) h2⟩
theorem I8.form {w : World} {lo hi : Nat} {e : TypeId} {sz : Nat} {v : Value} {n : Nat} {xs : List Value} (h : I8 w lo hi e sz v n xs) : ∃ a cap, v = .slice a n cap := by
 obtain ⟨_, a, cap, hv, _⟩ := h.row
 exact ⟨a, cap, hv⟩
theorem I8.same {w w' : World} {lo hi : Nat} {e : TypeId} {sz : Nat} {v : Value} {n : Nat} {xs : List Value} (h : I8 w lo hi e sz v n xs)
  (hs : ∀ g, v.ownBlock = some g → w'.heap[g]? = w.heap[g]?) : I8 w' lo hi e sz v n xs := by
 refine ⟨⟨h.1.1, ?_⟩, h.2⟩
 rcases h.1.2 with hn | ⟨g, cap, cur, rfl, hbg, hg, r⟩
 ·exact .inl hn
 ·exact .inr ⟨g, cap, cur, rfl, hbg, (hs g rfl).trans hg, r⟩
theorem I8.keep {w w' : World} {lo hi B : Nat} {e : TypeId} {sz : Nat} {v : Value} {n : Nat} {xs : List Value} (h : I8 w lo hi e sz v n xs) (hb : Below B w w') (hB : hi ≤ B) : I8 w' lo hi e sz v n xs :=
 h.same fun g hg => hb.block g (by have := h.lt g hg; omega)
theorem I8.out {w w' : World} {lo hi lo' hi' : Nat} {e : TypeId} {sz : Nat} {v : Value} {n : Nat} {xs : List Value} (h : I8 w lo hi e sz v n xs) (ho : Out lo' hi' w w') (hd : hi ≤ lo' ∨ hi' ≤ lo) : I8 w' lo hi e sz v n xs :=
 h.same fun g hg => ho.block g (h.lt g hg).2.2 (by have := h.lt g hg; omega)
theorem I8.open {w : World} {lo hi : Nat} {e : TypeId} {sz : Nat} {v : Value} {n : Nat} {xs : List Value} (h : I8 w lo hi e sz v n xs) (hn : 0 < n) :
  ∃ g cap, v = .slice (some ⟨g, 0, none⟩) n cap ∧ lo ≤ g ∧ g < hi ∧ g < w.heap.size ∧ n ≤ cap ∧ cap ≤ maxLen ∧ (∀ o, w.frozen? ⟨g, o, none⟩ = false) ∧ ∀ j u, xs[j]? = some u → w.cell? ⟨g, j, none⟩ = some u := by
 have hl := h.lt
 rcases h.1.2 with ⟨_, h0⟩ | ⟨g, cap, cur, rfl, hbg, hg, hnc, hcm, hcs, ht⟩
 ·omega
 ·obtain ⟨l1, l2, l3⟩ := hl g rfl
  refine ⟨g, cap, rfl, l1, l2, l3, hnc, hcm, fun o => ?_, fun j u hj => ?_⟩
  ·simp only [World.frozen?, hg]; simp
  ·have hadd : (⟨g, 0, none⟩ : Addr).add j = ⟨g, j, none⟩ := by unfold Addr.add; split <;> simp_all
   rw [← hadd]
   exact h.1.cells (g := g) rfl j u hj
theorem I8.at {w : World} {lo hi : Nat} {e : TypeId} {sz : Nat} {v : Value} {n : Nat} {xs : List Value} (h : I8 w lo hi e sz v n xs) {j : Nat} (hj : j < xs.length) :
  ∃ g cap, v = .slice (some ⟨g, 0, none⟩) n cap ∧ lo ≤ g ∧ g < hi ∧ g < w.heap.size ∧ w.frozen? ⟨g, j, none⟩ = false ∧ ∃ u, w.cell? ⟨g, j, none⟩ = some u := by
 have hn : 0 < n := by
  rcases Nat.eq_zero_or_pos n with h0 | h0
  ·subst h0; have := h.1.1; omega
  ·exact h0
 obtain ⟨g, cap, hv, h1, h2, h3, _, _, h4, h5⟩ := h.open hn
 exact ⟨g, cap, hv, h1, h2, h3, h4 j, _, h5 j _ (b89 hj)⟩
theorem I8.setCell {w : World} {lo hi : Nat} {e : TypeId} {sz : Nat} {n cap g : Nat} {xs : List Value} (h : I8 w lo hi e sz (.slice (some ⟨g, 0, none⟩) n cap) n xs) {j : Nat} (_hj : j < xs.length) (u : Value) :
  I8 (w.setCell ⟨g, j, none⟩ u) lo hi e sz (.slice (some ⟨g, 0, none⟩) n cap) n (xs.set j u) := by
 refine ⟨⟨by rw [b97]; exact h.1.1, ?_⟩, h.2⟩
 rcases h.1.2 with ⟨hv, _⟩ | ⟨g', cap', cur, hv, hbg, hg, hnc, hcm, hcs, ht⟩
 ·cases hv
 ·cases hv
  refine .inr ⟨g, cap, cur.setIfInBounds j u, rfl, hbg, ?_, hnc, hcm, by simpa using hcs, ?_⟩
  ·have hlt := (Array.getElem?_eq_some_iff.1 hg).1
   simp only [World.setCell, Array.getElem?_modify]
   simp [hg]
  ·rw [Array.toList_setIfInBounds, List.take_set, ht]
theorem i6 {a b : Bool} (h : a = b) : Ending.returned (.bool a) = .returned (.bool b) := by rw [h]
theorem B9 {k : IntKind} {a b : Int} (h : a = b) : Ending.returned (.int k a) = .returned (.int k b) := by rw [h]
theorem n9 {α : Type} (l : List α) (k : Nat) (h : k < l.length) : l.take (k + 1) = l.take k ++ [l[k]] := by
 rw [List.take_succ_eq_append_getElem h]
theorem at5 {α : Type} {xs ys : List α} {k : Nat} (h : xs.take k = ys.take k) (h1 : k < xs.length) (h2 : k < ys.length) (he : xs[k] = ys[k]) : xs.take (k + 1) = ys.take (k + 1) := by
 rw [n9 _ _ h1, n9 _ _ h2, h, he]
theorem aB3 {α : Type} {xs ys : List α} {k : Nat} (h : xs.take k = ys.take k) (h1 : xs.length ≤ k) (h2 : ys.length ≤ k) : xs = ys := by
 rw [b98 h1, b98 h2] at h; exact h
theorem ap2 {α : Type} (ys : List α) (k : Nat) (u : α) (h : k < ys.length) : (ys.set k u).take (k + 1) = ys.take k ++ [u] := by
 rw [n9 _ _ (by simpa using h), List.take_set_of_le (b94 _)]; simp
def E5 (z : List Value) (n : Nat) : List Value := (b82 n z).flatten
theorem R1 (z : List Value) (n : Nat) : (E5 z n).length = n * z.length := by simp [E5]
theorem aa6 (z : Value) (n : Nat) : E5 [z] n = b82 n z := by
 unfold E5
 induction n with
 | zero => rfl
 | succ n ih => rw [List.replicate_succ, List.flatten_cons, ih]; rfl
theorem aL6 (z : Array Value) (n : Nat) (_hz : 0 < z.size) : madeCells z (n * z.size) = (E5 z.toList n).toArray := by
 apply Array.ext
 ·simp [size_madeCells, R1]
 ·intro i h1 h2
  simp only [madeCells, Array.getElem_map, Array.getElem_range, List.getElem_toArray]
  have hlt : i < (E5 z.toList n).length := by simpa using h2
  have key : ∀ (m i : Nat), i < (E5 z.toList m).length → (E5 z.toList m)[i]? = some (z[i % z.size]!) := by
   intro m
   induction m with
   | zero => intro i hi; simp [E5] at hi
   | succ m ih =>
    intro i hi
    have e : E5 z.toList (m + 1) = z.toList ++ E5 z.toList m := by simp [E5, List.replicate_succ]
    rw [e]
    by_cases hlt : i < z.size
    ·rw [cb9 (by simpa using hlt), Nat.mod_eq_of_lt hlt]
     simp [hlt]
    ·rw [cc9 (by simp; omega)]
     have := ih (i - z.toList.length) (by rw [e, b83] at hi; rw [Array.length_toList] at hi ⊢; omega)
     rw [this]
     congr 2
     rw [Array.length_toList]
     exact (Nat.mod_eq_sub_mod (by omega)).symm
  have := key n i hlt
  rw [b89 hlt] at this
  exact (Option.some.inj this).symm
theorem aL5 {P : Program} {t e : TypeId} {z : Value} {size bytes : Nat} (ht : P.underlying t = some (.slice e)) (hi : (P.info? e).map (fun i => (i.zero, i.size, i.bytes)) = some (some z, size, bytes))
  (hz : z.cells.size = size) (hs : 0 < size) (n : Nat) (hn : bytes * n ≤ 281474976710656) (hm : n ≤ 9223372036854775807) :
  ∀ w, (Instr.makeSlice t (.int .i64 n) (.int .i64 n)).run P w = .ok (.slice (some ⟨w.heap.size, 0, none⟩) n n) (w.alloc (.cells (E5 z.cells.toList n).toArray e)) := by
 intro w
 obtain ⟨i, h1, h2, h3, h4⟩ := info_parts hi
 have := run_make (P := P) w t e i z ht h1 h2 .i64 .i64 n n (by omega) (Int.le_refl _) (by rw [h4, ← Int.natCast_mul]; omega) (by omega)
 rw [this]
 simp only [Int.toNat_natCast, h3]
 subst hz
 rw [aL6 _ _ hs]
theorem Q3 (w : World) {g : Nat} (cs : Array Value) (n sz : Nat) (e : TypeId) (hg : g = w.heap.size) (hz : cs.size = n * sz) (hm : n ≤ 9223372036854775807) :
  I8 (w.alloc (.cells cs e)) w.heap.size (w.heap.size + 1) e sz (.slice (some ⟨g, 0, none⟩) n n) n cs.toList := by
 subst hg
 refine ⟨⟨by simpa using hz, .inr ⟨w.heap.size, n, _, rfl, b94 _, heap_alloc_new w _, b94 _, by unfold maxLen; omega, hz, ?_⟩⟩, fun g hg => by cases hg; exact Nat.lt_succ_self _⟩
 rw [← hz]
 exact b98 (by simp)
theorem a46 (w : World) (z : List Value) (n sz : Nat) (e : TypeId) (hz : z.length = sz) (hm : n ≤ 9223372036854775807) :
  I8 (w.alloc (.cells (E5 z n).toArray e)) w.heap.size (w.heap.size + 1) e sz (.slice (some ⟨w.heap.size, 0, none⟩) n n) n (E5 z n) := by
 refine ⟨⟨by rw [R1, hz], .inr ⟨w.heap.size, n, _, rfl, b94 _, heap_alloc_new w _, b94 _, by unfold maxLen; omega, by simp [R1, hz], ?_⟩⟩, fun g hg => by cases hg; exact Nat.lt_succ_self _⟩
 have : (E5 z n).length = n * sz := by rw [R1, hz]
 rw [← this]
 simp
def setFrom (ys : List Value) (p : Nat) : List Value → List Value
 | [] => ys
 | u :: r => setFrom (ys.set p u) (p + 1) r
def World.setFrom (w : World) (g p : Nat) : List Value → World
 | [] => w
 | u :: r => World.setFrom (w.setCell ⟨g, p, none⟩ u) g (p + 1) r
theorem K4 (us : List Value) : ∀ (ys : List Value) (p : Nat), (setFrom ys p us).length = ys.length := by
 induction us with
 | nil => intro ys p; rfl
 | cons u r ih => intro ys p; simp [setFrom, ih]
theorem at9 (us : List Value) : ∀ (ys : List Value) (p : Nat), p + us.length ≤ ys.length → (setFrom ys p us).take (p + us.length) = ys.take p ++ us := by
 induction us with
 | nil => intro ys p h; simp [setFrom]
 | cons u r ih =>
  intro ys p h
  simp only [b84] at h
  have := ih (ys.set p u) (p + 1) (by simp; omega)
  simp only [setFrom, b84]
  rw [show p + (r.length + 1) = p + 1 + r.length by omega, this, ap2 _ _ _ (by omega)]
  simp
theorem I8.setFrom {lo hi : Nat} {e : TypeId} {sz n cap g : Nat} (us : List Value) : ∀ {w : World} {xs : List Value} {p : Nat}, I8 w lo hi e sz (.slice (some ⟨g, 0, none⟩) n cap) n xs → p + us.length ≤ xs.length →
  I8 (World.setFrom w g p us) lo hi e sz (.slice (some ⟨g, 0, none⟩) n cap) n (setFrom xs p us) := by
 induction us with
 | nil => intro w xs p h _; exact h
 | cons u r ih =>
  intro w xs p h hl
  simp only [b84] at hl
  exact ih (h.setCell (by omega) u) (by simp; omega)
theorem Out.setFrom {lo hi g : Nat} {a : World} (us : List Value) : ∀ {w : World} {p : Nat}, Out lo hi a w → lo ≤ g → g < hi → Out lo hi a (World.setFrom w g p us) := by
 induction us with
 | nil => intro w p h _ _; exact h
 | cons u r ih => intro w p h h1 h2; exact ih (h.setCell h1 h2 u) h1 h2
def aE4 (u v : Value) : Prop := ∀ g, u.ownBlock = some g → v.ownBlock ≠ some g
theorem aE4.symm {u v : Value} (h : aE4 u v) : aE4 v u := fun g h1 h2 => h g h2 h1
theorem bN4 {w w' : World} {lo hi lo' hi' : Nat} {e e' : TypeId} {sz sz' : Nat} {v v' : Value} {n n' : Nat} {xs xs' : List Value} (h : I8 w lo hi e sz v n xs) (h' : I8 w' lo' hi' e' sz' v' n' xs') (hd : hi ≤ lo' ∨ hi' ≤ lo) : aE4 v v' := by
 intro g h1 h2
 have := h.lt g h1
 have := h'.lt g h2
 omega
def H7 (w : World) (b : Nat) (cs : List Value) : Prop := ∃ T, w.heap[b]? = some (.cells cs.toArray T (0, 0))
theorem H7.lt {w : World} {b : Nat} {cs : List Value} (h : H7 w b cs) : b < w.heap.size := by
 obtain ⟨T, h⟩ := h; exact (Array.getElem?_eq_some_iff.1 h).1
theorem H7.cell {w : World} {b : Nat} {cs : List Value} (h : H7 w b cs) (j : Nat) : w.cell? ⟨b, j, none⟩ = cs[j]? := by
 obtain ⟨T, h⟩ := h; simp [World.cell?, h]
theorem H7.free {w : World} {b : Nat} {cs : List Value} (h : H7 w b cs) (j : Nat) : w.frozen? ⟨b, j, none⟩ = false := by
 obtain ⟨T, h⟩ := h; simp only [World.frozen?, h]; simp
theorem H7.below {w w' : World} {b B : Nat} {cs : List Value} (h : H7 w b cs) (hb : Below B w w') (hB : b < B) : H7 w' b cs := by
 obtain ⟨T, h⟩ := h; exact ⟨T, (hb.block b hB).trans h⟩
theorem H7.out {w w' : World} {b lo hi : Nat} {cs : List Value} (h : H7 w b cs) (hb : Out lo hi w w') (hB : b < lo ∨ hi ≤ b) : H7 w' b cs := by
 have hlt := h.lt
 obtain ⟨T, h⟩ := h; exact ⟨T, (hb.block b hlt hB).trans h⟩
theorem H7.set {w : World} {b j : Nat} {cs : List Value} (h : H7 w b cs) (u : Value) : H7 (w.setCell ⟨b, j, none⟩ u) b (cs.set j u) := by
 obtain ⟨T, h⟩ := h
 refine ⟨T, ?_⟩
 simp only [World.setCell, Array.getElem?_modify]
 simp [h]
theorem H7.other {w : World} {b : Nat} {p : Addr} {cs : List Value} (h : H7 w b cs) (hp : b ≠ p.block) (u : Value) : H7 (w.setCell p u) b cs := by
 obtain ⟨T, h⟩ := h; exact ⟨T, (Below.heap_setCell _ _ _ _ hp).trans h⟩
theorem H7.new (w : World) (cs : List Value) (T : TypeId) : H7 (w.alloc (.cells cs.toArray T)) w.heap.size cs := ⟨T, heap_alloc_new w _⟩
theorem H7.new' (w : World) {b : Nat} (cs : List Value) (T : TypeId) (hb : b = w.heap.size) : H7 (w.alloc (.cells cs.toArray T)) b cs := by subst hb; exact H7.new w cs T
theorem H7.alloc {w : World} {b : Nat} {cs : List Value} (h : H7 w b cs) (o : Obj) : H7 (w.alloc o) b cs := by
 have hlt := h.lt
 obtain ⟨T, h⟩ := h; exact ⟨T, (Below.heap_alloc w o b hlt).trans h⟩
theorem H7.drew {w : World} {b : Nat} {cs : List Value} (h : H7 w b cs) : H7 w.drew b cs := h
theorem Out.cell (w : World) (b j : Nat) (u : Value) : Out b (b + 1) w (w.setCell ⟨b, j, none⟩ u) :=
 Out.setCell (p := ⟨b, j, none⟩) (Out.refl b (b + 1) w) (b94 b) (Nat.lt_succ_self b) u
theorem I8.other {w : World} {lo hi : Nat} {e : TypeId} {sz : Nat} {v : Value} {n : Nat} {xs : List Value} (h : I8 w lo hi e sz v n xs) {b : Nat} (hb : b < lo ∨ hi ≤ b) (j : Nat) (u : Value) : I8 (w.setCell ⟨b, j, none⟩ u) lo hi e sz v n xs :=
 h.out (Out.cell w b j u) (by omega)
end Go.Proofs.YthikdkjjdeehoaaGreat

namespace Go.Proofs.YthikdkjjdeehoaaGreat
set_option linter.unusedVariables false
set_option linter.unusedSimpArgs false
open Go Go.RowKit Go.ChangeShapes Go.WideShapes Go.Deep
theorem own : ownKnob Tryz.prog.godebug = none := by kernel_rfl
theorem bL9 : laidOutB Tryz.prog = true := by kernel_rfl
section
variable {H : Type} {enc : TypeId × Value → H} {W : World}
theorem bD9 {C : Nat → List Value} {sz : Nat} (hC : ∀ i, (C i).length = sz) : ∀ (n i j : Nat), i < n → j < sz → ((ca2 n).flatMap C)[i * sz + j]? = (C i)[j]? := by
 intro n
 induction n with
 | zero => intro i j h; omega
 | succ n ih =>
  intro i j h hj
  have hlen : ((ca2 n).flatMap C).length = n * sz := by
   clear ih h
   induction n with
   | zero => simp
   | succ n ih2 => rw [List.range_succ, List.flatMap_append, b83, ih2]; simp [hC, cc1]
  rw [List.range_succ, List.flatMap_append]
  by_cases hin : i < n
  ·rw [cb9 (by rw [hlen]; have := cc7 sz (Nat.succ_le_of_lt hin); rw [cc1] at this; omega)]
   exact ih i j hin hj
  ·obtain rfl : i = n := by omega
   rw [cc9 (by omega), hlen]
   simp
theorem a69 {C : Nat → List Value} {sz : Nat} (hC : ∀ i, (C i).length = sz) (n : Nat) : ((ca2 n).flatMap C).length = n * sz := by
 induction n with
 | zero => simp
 | succ n ih2 => rw [List.range_succ, List.flatMap_append, b83, ih2]; simp [hC, cc1]
theorem a40 {t e : TypeId} {fuel : Nat} {v : Value} {x : DataW H × List MemPlace} {sz : Nat} (ht : Tryz.prog.underlying t = some (.slice e)) (hc : Tryz.prog.cellsOf e = sz) (hsz : 0 < sz)
  (h : DataW.trod enc Tryz.prog W 0 (fun _ => true) true fuel t [v] = some x) :
  ∃ (n m : Nat) (C : Nat → List Value), N3 W v n sz ((ca2 n).flatMap C) ∧ (∀ i, (C i).length = sz) ∧ ∀ i, i < n → ∃ y, DataW.trod enc Tryz.prog W 0 (fun _ => true) true m e (C i) = some y := by
 rcases open_slice ht h with ⟨hcs, _⟩ | ⟨a, len, cap, m, k, D, Pl, hcs, _, hl, hm, hmm, _, hx⟩
 ·cases hcs
  exact ⟨0, 0, fun _ => b82 sz undef, N3.nil _ _, by simp, fun i hi => by omega⟩
 ·cases hcs
  rw [hc] at hx
  have hmc : len ≤ m := by rw [hmm]; simp; omega
  obtain ⟨C, hC⟩ := choose_lt (α := List Value) (n := len) (p := fun i cs => cs.length = sz ∧ (∀ j, j < sz → W.cell? (a.add (i * sz + j)) = cs[j]?) ∧ ∃ y, DataW.trod enc Tryz.prog W 0 (fun _ => true) true k e cs = some y) (fun i hi => by
   obtain ⟨cs', h1, h2⟩ := hx i (by omega)
   obtain ⟨_, hlen, hcell⟩ := World.cells?_some h1
   exact ⟨cs', hlen, fun j hj => by rw [← add_add]; exact hcell j hj, _, h2⟩)
  let C' : Nat → List Value := fun i => if i < len then C i else b82 sz undef
  have hC' : ∀ i, (C' i).length = sz := fun i => by
   by_cases hi : i < len
   ·simp only [C', if_pos hi]; exact (hC i hi).1
   ·simp [C', if_neg hi]
  refine ⟨len, k, C', ⟨a69 hC' len, some a, cap, rfl, hl, hm, fun hn => ?_⟩, hC', fun i hi => ?_⟩
  ·obtain ⟨b, off, spot⟩ := a
   have h00 := (hC 0 hn).2.1 0 hsz
   have hlen0 := (hC 0 hn).1
   rw [b89 (by omega)] at h00
   have hs : spot = none := by
    simpa [Addr.add] using World.cell?_spot h00
   subst hs
   have hb : b < W.heap.size := by simpa [Addr.add] using World.block_lt_of_cell? W _ h00
   refine ⟨b, off, rfl, hb, fun j u hj => ?_⟩
   have hjl : j < len * sz := by have := (b96.1 hj).1; rw [a69 hC'] at this; exact this
   have hi : j / sz < len := Nat.div_lt_of_lt_mul (by rw [Nat.mul_comm]; exact hjl)
   have hr : j % sz < sz := Nat.mod_lt _ hsz
   have hjj : j / sz * sz + j % sz = j := Nat.div_add_mod' j sz
   have hg := bD9 hC' len (j / sz) (j % sz) hi hr
   rw [hjj, hj] at hg
   have hcc := (hC _ hi).2.1 _ hr
   simp only [C', if_pos hi] at hg
   rw [hjj, ← hg] at hcc
   have hadd : (⟨b, off, none⟩ : Addr).add j = ⟨b, off + j, none⟩ := by unfold Addr.add; split <;> simp_all
   rw [hadd] at hcc
   exact hcc
  ·obtain ⟨y, hy⟩ := (hC i hi).2.2
   exact ⟨y, by simp only [C', if_pos hi]; exact hy⟩
theorem aL4 {α : Type} (n : Nat) (C : Nat → List Value) (f : α → Value) (g : Nat → α) (h : ∀ i, i < n → C i = [f (g i)]) : (ca2 n).flatMap C = ((ca2 n).map g).map f := by
 rw [List.map_map, List.flatMap_def]
 rw [List.map_congr_left (g := fun i => [f (g i)]) (fun i hi => h i (by simpa using hi))]
 induction n with
 | zero => simp
 | succ n ih =>
  rw [List.range_succ, List.map_append, List.flatten_append, List.map_append, ih (fun i hi => h i (by omega))]
  simp
end
end Go.Proofs.YthikdkjjdeehoaaGreat

namespace Go.Proofs.YthikdkjjdeehoaaGreat
set_option linter.unusedVariables false
set_option linter.unusedSimpArgs false
open Go Go.RowKit
def _root_.Go.World.ext (w X : World) : World := { w with heap := w.heap ++ X.heap, drawn := X.drawn }
theorem l7 (w : World) (X : World) : Below w.heap.size w (w.ext X) :=
 ⟨rfl, rfl, rfl, by simp [World.ext], fun k hk => by simp only [World.ext]; rw [Array.getElem?_append_left hk]⟩
theorem aA5 {w w' : World} (h : Below w.heap.size w w') : ∃ X, w' = w.ext X := by
 refine ⟨{ w' with heap := w'.heap.extract w.heap.size w'.heap.size }, ?_⟩
 obtain ⟨h1, h2, h3, h4, h5⟩ := h
 have hh : w'.heap = w.heap ++ w'.heap.extract w.heap.size w'.heap.size := by
  apply Array.ext_getElem?
  intro i
  rcases ca8 i w.heap.size with hi | hi
  ·rw [Array.getElem?_append_left hi, h5 i hi]
  ·rw [Array.getElem?_append_right hi, Array.getElem?_extract]
   split
   ·rw [show w.heap.size + (i - w.heap.size) = i by omega]
   ·rename_i hn
    rw [Array.getElem?_eq_none]
    simp at hn
    omega
 cases w; cases w'
 simp only [World.ext] at *
 subst h1 h2 h3
 rw [← hh]
theorem f8 {w : World} {b o : Nat} {v : Value} (h : w.cell? ⟨b, o, none⟩ = some v) (X : World) : (w.ext X).cell? ⟨b, o, none⟩ = some v := by
 have hb : b < w.heap.size := World.block_lt_of_cell? w ⟨b, o, none⟩ h
 rw [(K0 (l7 w X)).1 b o hb]; exact h
theorem Calls.ext_of' {P : Program} {f : FuncId} {args : Array Value} {w : World} {X : World} {v : Value}
  (h : Calls P f args (w.ext X) fun e w' => e = .returned v ∧ Below (w.ext X).heap.size (w.ext X) w') : Calls P f args (w.ext X) fun e w'' => e = .returned v ∧ ∃ Y, w'' = w.ext Y :=
 h.mono fun _ _ ⟨he, hb⟩ => ⟨he, aA5 ((l7 w X).trans (hb.mono (l7 w X).size))⟩
theorem r9 {P : Program} {id : Nat} {Q : Exit → Act → World → Prop} {a : Act} {w : World} {l : List Oper} (hm : P.follows .mixedOrders = true) (hB : Region.lexB .any l.toArray = true)
  (h : wpQuiet P l.toArray (fun w' => ∃ X, w' = w.ext X) (fun a' => ∀ w', (∃ X, w' = w.ext X) → Q .normal a' w') l a) : (Code.region id l.toArray true).wp P Q a w :=
 wp_region_quiet (C := fun w' => ∃ X, w' = w.ext X) hm hB (aA5 (w' := w.drew) (Below.refl _ _).drew) (by simpa using h)
theorem az0 {P : Program} {f : FuncId} {fn : Func} {c : Code} (hf : P.funcs[f]? = some fn) (hn : (fn.name == "runtime.NumGoroutine") = false) (hb : fn.body = some c) :
  ∀ args w, (callFunc f args).run P w = .ok (.enter f args) w := by
 intro args w
 have h1 : fn.name ≠ "runtime.NumGoroutine" := by simpa using hn
 simp [callFunc, hf, h1, hb, mark]
end Go.Proofs.YthikdkjjdeehoaaGreat

namespace Go.Proofs.YthikdkjjdeehoaaGreat
set_option linter.unusedVariables false
set_option linter.unusedSimpArgs false
theorem D4 {α : Type} (l : List α) (k : Nat) (h : k < l.length) : l.take (k + 1) = l.take k ++ [l[k]] := by
 rw [List.take_succ_eq_append_getElem h]
theorem ap9 {α : Type} (p : α → Bool) (l : List α) (k : Nat) (h : k < l.length) : (l.take (k + 1)).all p = ((l.take k).all p && p l[k]) := by
 rw [D4 l k h, List.all_append]; simp
theorem bm4 {α : Type} {p : α → Bool} {l : List α} {k : Nat} (h : k < l.length) (hp : p l[k] = false) : l.all p = false := by
 rw [List.all_eq_false]; exact ⟨l[k], ca5 h, by simp [hp]⟩
structure d9 where
 op : Int
 a : Int
 b : Int
 c : Int
 d : Int
def d9.l (x : d9) : List Int := [x.op, x.a, x.b, x.c, x.d]
def T2 : List d9 → List Int
 | [] => []
 | x :: r => x.op :: x.a :: x.b :: x.c :: x.d :: T2 r
theorem bD2 (l : List d9) : (T2 l).length = l.length * 5 := by
 induction l with
 | nil => rfl
 | cons x r ih => simp [T2, ih]; omega
theorem d9.ext' {x y : d9} (h : x.l = y.l) : x = y := by
 cases x; cases y; simp [d9.l] at h; simp [h]
theorem au9 : ∀ {l m : List d9}, T2 l = T2 m → l = m
 | [], [], _ => rfl
 | [], _ :: _, h => by simp [T2] at h
 | _ :: _, [], h => by simp [T2] at h
 | x :: r, y :: s, h => by
  simp only [T2, List.cons.injEq] at h
  obtain ⟨h1, h2, h3, h4, h5, h6⟩ := h
  rw [au9 h6, d9.ext' (x := x) (y := y) (by simp [d9.l, h1, h2, h3, h4, h5])]
theorem a58 (l : List d9) (i : Nat) (hi : i < l.length) : (T2 l)[i * 5]? = some l[i].op ∧ (T2 l)[i * 5 + 1]? = some l[i].a ∧ (T2 l)[i * 5 + 2]? = some l[i].b ∧ (T2 l)[i * 5 + 3]? = some l[i].c ∧ (T2 l)[i * 5 + 4]? = some l[i].d := by
 induction l generalizing i with
 | nil => simp at hi
 | cons x r ih =>
  cases i with
  | zero => simp [T2]
  | succ i =>
   rw [cc1]
   have := ih i (by simpa using hi)
   simpa [T2, Nat.add_assoc] using this
structure i8 where
 vars : List Int
 arrays : List Int
 list : List d9
def i8.size (c : i8) : Nat := c.vars.length + c.arrays.length + c.list.length
def i8.same (c d : i8) : Bool := decide (c.vars = d.vars) && decide (c.arrays = d.arrays) && decide (T2 c.list = T2 d.list)
theorem i8.same_eq {c d : i8} : c.same d = true ↔ c = d := by
 cases c; cases d
 simp only [i8.same, b85, decide_eq_true_eq, i8.mk.injEq]
 constructor
 ·rintro ⟨⟨rfl, rfl⟩, h⟩; exact ⟨rfl, rfl, au9 h⟩
 ·rintro ⟨rfl, rfl, rfl⟩; exact ⟨⟨rfl, rfl⟩, rfl⟩
theorem i8.same_refl (c : i8) : c.same c = true := i8.same_eq.2 rfl
def i5 (l : Int) : Bool := decide (0 ≤ l) && decide (l ≤ 3)
def B6 (vars arrays : List Int) : Bool := vars.all i5 && arrays.all i5 && decide (1 ≤ vars.length) && decide (vars.length ≤ 12) && decide (arrays.length ≤ 2)
def af8 (c : i8) (kd : UInt8) (n : Int) : Bool :=
 if kd = 114 then decide (0 ≤ n) && decide (n < 14)
 else if kd = 99 then decide (0 ≤ n) && decide (n ≤ 255)
 else if kd = 118 then decide (0 ≤ n) && decide (n < c.vars.length)
 else if kd = 97 then decide (0 ≤ n) && decide (n < c.arrays.length)
 else if kd = 111 then decide (4 ≤ n) && decide (n ≤ 10)
 else decide (0 ≤ n) && decide (n < c.list.length)
def aa4 (op : Int) : List UInt8 :=
 if op = 1 then [114, 99] else if op = 2 then [114, 118] else if op = 3 then [118, 114] else if op = 4 then [114, 97, 114] else if op = 5 then [97, 114, 114]
 else if op = 6 then [114, 111, 114, 114] else if op = 7 then [114, 114, 114, 114] else if op = 8 then [116] else if op = 9 then [114, 116] else if op = 10 then [114, 116]
 else if op = 11 then [114] else []
def Z5 (c : i8) (kinds : List UInt8) (k : Nat) (n : Int) : Bool :=
 match kinds[k]? with
 | some kd => af8 c kd n
 | none => decide (n = 0)
def J0 (c : i8) (x : d9) : Bool :=
 decide (1 ≤ x.op) && decide (x.op ≤ 13) && (Z5 c (aa4 x.op) 0 x.a && Z5 c (aa4 x.op) 1 x.b && Z5 c (aa4 x.op) 2 x.c && Z5 c (aa4 x.op) 3 x.d)
def ar0 (c : i8) : Bool := match c.list.getLast? with | some x => decide (x.op = 13) || decide (x.op = 8) | none => false
def E3 (c : i8) : Bool := B6 c.vars c.arrays && decide (1 ≤ c.list.length) && decide (c.list.length ≤ 400) && c.list.all (J0 c) && ar0 c
def K6 (c : i8) (kd : UInt8) (n : Int) : Bool :=
 if kd = 114 then decide (0 ≤ n) && decide (n ≤ 13)
 else if kd = 118 then decide (0 ≤ n) && decide (n ≤ (c.vars.length : Int) - 1)
 else if kd = 97 then decide (0 ≤ n) && decide (n ≤ (c.arrays.length : Int) - 1)
 else if kd = 110 then decide (0 ≤ n) && decide (n ≤ 255)
 else if kd = 111 then decide (4 ≤ n) && decide (n ≤ 10)
 else if kd = 105 then decide (0 ≤ n) && decide (n ≤ (c.list.length : Int) - 1)
 else decide (n = 0)
def O6 (op : Int) : List UInt8 :=
 if op = 1 then [114, 110, 45, 45] else if op = 2 then [114, 118, 45, 45] else if op = 3 then [118, 114, 45, 45] else if op = 4 then [114, 97, 114, 45] else if op = 5 then [97, 114, 114, 45]
 else if op = 6 then [114, 111, 114, 114] else if op = 7 then [114, 114, 114, 114] else if op = 8 then [105, 45, 45, 45] else if op = 9 then [114, 105, 45, 45] else if op = 10 then [114, 105, 45, 45]
 else if op = 11 then [114, 45, 45, 45] else if op = 12 then [45, 45, 45, 45] else if op = 13 then [45, 45, 45, 45] else []
def aK4 (c : i8) (kinds : List UInt8) (parts : List Int) (k : Nat) : Bool := (ca2 k).all fun j => K6 c (kinds.getD j 0) (parts.getD j 0)
theorem aT2 (c : i8) (kinds : List UInt8) (parts : List Int) (k : Nat) : aK4 c kinds parts (k + 1) = (aK4 c kinds parts k && K6 c (kinds.getD k 0) (parts.getD k 0)) := by
 simp [aK4, List.range_succ]
theorem br4 {c : i8} {kinds : List UInt8} {parts : List Int} {k : Nat} (n : Nat) (hk : k < n) (h : K6 c (kinds.getD k 0) (parts.getD k 0) = false) : aK4 c kinds parts n = false := by
 unfold aK4
 rw [List.all_eq_false]
 exact ⟨k, by simpa using hk, by simpa using h⟩
theorem aS4 {op : Int} (h : ¬ (1 ≤ op ∧ op ≤ 13)) : O6 op = [] := by
 unfold O6
 repeat (rw [if_neg (by omega)])
theorem bJ0 {op : Int} (h : 1 ≤ op ∧ op ≤ 13) : (O6 op).length = 4 := by
 have h' : op = 1 ∨ op = 2 ∨ op = 3 ∨ op = 4 ∨ op = 5 ∨ op = 6 ∨ op = 7 ∨ op = 8 ∨ op = 9 ∨ op = 10 ∨ op = 11 ∨ op = 12 ∨ op = 13 := by omega
 rcases h' with rfl | rfl | rfl | rfl | rfl | rfl | rfl | rfl | rfl | rfl | rfl | rfl | rfl <;> rfl
theorem bf6 (c : i8) (x : d9) (h : 1 ≤ x.op ∧ x.op ≤ 13) : J0 c x = aK4 c (O6 x.op) [x.a, x.b, x.c, x.d] 4 := by
 have e : aK4 c (O6 x.op) [x.a, x.b, x.c, x.d] 4 = (K6 c ((O6 x.op).getD 0 0) x.a && K6 c ((O6 x.op).getD 1 0) x.b && K6 c ((O6 x.op).getD 2 0) x.c && K6 c ((O6 x.op).getD 3 0) x.d) := by
  show aK4 c _ _ (0 + 1 + 1 + 1 + 1) = _
  simp only [aT2]
  simp [aK4]
 rw [e]
 unfold J0
 rw [decide_eq_true h.1, decide_eq_true h.2]
 have h' : x.op = 1 ∨ x.op = 2 ∨ x.op = 3 ∨ x.op = 4 ∨ x.op = 5 ∨ x.op = 6 ∨ x.op = 7 ∨ x.op = 8 ∨ x.op = 9 ∨ x.op = 10 ∨ x.op = 11 ∨ x.op = 12 ∨ x.op = 13 := by omega
 rcases h' with h' | h' | h' | h' | h' | h' | h' | h' | h' | h' | h' | h' | h' <;>
 ·rw [h', Bool.eq_iff_iff]
  simp [aa4, O6, Z5, af8, K6]
  try omega
def F9 (x : d9) : Int := if x.op = 8 then x.a else if x.op = 9 ∨ x.op = 10 then x.b else -1
def ap5 (x : d9) (i : Int) : List Int := if x.op = 13 then [] else if x.op = 8 then [x.a] else if x.op = 9 ∨ x.op = 10 then [i + 1, x.b] else [i + 1]
def ak8 (x : d9) (i : Int) : List Int := (if 0 ≤ F9 x then [F9 x] else []) ++ (if x.op ≠ 8 ∧ x.op ≠ 13 then [i + 1] else [])
def nx (c : i8) (t : Int) : List Int := match c.list[t.toNat]? with | some x => ap5 x t | none => []
theorem bB3 {c : i8} {t : Int} (h : t.toNat < c.list.length) : nx c t = ap5 c.list[t.toNat] t := by simp [nx, h]
theorem C0 {c : i8} (h : E3 c = true) : B6 c.vars c.arrays = true ∧ 1 ≤ c.list.length ∧ c.list.length ≤ 400 ∧ (∀ (i : Nat) (hi : i < c.list.length), J0 c c.list[i] = true) ∧ ar0 c = true := by
 unfold E3 at h
 simp only [b85, decide_eq_true_eq, b93] at h
 obtain ⟨⟨⟨⟨h1, h2⟩, h3⟩, h4⟩, h5⟩ := h
 exact ⟨h1, h2, h3, fun i hi => h4 _ (ca5 hi), h5⟩
theorem bx1 {c : i8} {x : d9} (h : J0 c x = true) (ho : x.op = 8 ∨ x.op = 9 ∨ x.op = 10) : 0 ≤ F9 x ∧ F9 x < c.list.length := by
 unfold J0 at h
 simp only [b85, decide_eq_true_eq] at h
 obtain ⟨_, ⟨⟨ha, hb⟩, _⟩, _⟩ := h
 rcases ho with ho | ho | ho
 ·rw [ho] at ha
  simp [aa4, Z5, af8] at ha
  simp [F9, ho]; omega
 ·rw [ho] at hb
  simp [aa4, Z5, af8] at hb
  simp [F9, ho]; omega
 ·rw [ho] at hb
  simp [aa4, Z5, af8] at hb
  simp [F9, ho]; omega
theorem bL8 {c : i8} (h : E3 c = true) (i : Nat) (hi : i < c.list.length) (h1 : c.list[i].op ≠ 13) (h2 : c.list[i].op ≠ 8) : i + 1 < c.list.length := by
 obtain ⟨_, hn, _, _, hl⟩ := C0 h
 rcases ca8 (i + 1) c.list.length with hlt | hge
 ·exact hlt
 ·exfalso
  unfold ar0 at hl
  rw [List.getLast?_eq_getElem?, show c.list.length - 1 = i by omega, b89 hi] at hl
  simp at hl
  omega
theorem bB2 {c : i8} (h : E3 c = true) {i t : Int} (hi : 0 ≤ i) (ht : t ∈ nx c i) : 0 ≤ t ∧ t < c.list.length := by
 by_cases hlt : i.toNat < c.list.length
 ·rw [bB3 hlt] at ht
  have ho := (C0 h).2.2.2.1 _ hlt
  have hl := bL8 h _ hlt
  have hk := bx1 ho
  unfold ap5 at ht
  unfold F9 at hk
  generalize c.list[i.toNat] = x at *
  by_cases h13 : x.op = 13
  ·simp [h13] at ht
  ·by_cases h8 : x.op = 8
   ·simp [h8] at ht hk
    omega
   ·have := hl h13 h8
    by_cases h9 : x.op = 9 ∨ x.op = 10
    ·simp only [if_neg h13, if_neg h8, if_pos h9, cb7, List.not_mem_nil, or_false] at ht hk
     rcases ht with rfl | rfl
     ·omega
     ·exact hk (.inr h9)
    ·simp only [if_neg h13, if_neg h8, if_neg h9, cb7, List.not_mem_nil, or_false] at ht
     omega
 ·unfold nx at ht
  rw [cb3 (by omega)] at ht
  simp at ht
theorem br9 {c : i8} {x : d9} (h : J0 c x = true) (i t : Int) : t ∈ ak8 x i ↔ t ∈ ap5 x i := by
 have hk := bx1 h
 unfold ak8 ap5
 by_cases h13 : x.op = 13
 ·simp [h13, F9]
 ·by_cases h8 : x.op = 8
  ·have hh := hk (.inl h8)
   simp [h8, F9] at hh ⊢
   omega
  ·by_cases h9 : x.op = 9 ∨ x.op = 10
   ·have hh := hk (.inr h9)
    have e : F9 x = x.b := by simp [F9, h8, h9]
    rw [e] at hh ⊢
    simp only [if_neg h13, if_neg h8, if_pos h9, if_pos hh.1, if_pos (show x.op ≠ 8 ∧ x.op ≠ 13 from ⟨h8, h13⟩)]
    simp [or_comm]
   ·have e : F9 x = -1 := by simp [F9, h8, h9]
    rw [e]
    simp [h13, h8, h9]
theorem bs0 (x : d9) (i : Int) : (ak8 x i).length ≤ 2 := by
 unfold ak8; rw [b83]; split <;> split <;> simp
inductive Rc (c : i8) : Int → Prop
 | zero : Rc c 0
 | step {i t : Int} : Rc c i → t ∈ nx c i → Rc c t
noncomputable def ak2 (c : i8) : List Bool := (ca2 c.list.length).map fun (j : Nat) => @decide (Rc c (j : Int)) (Classical.propDecidable _)
theorem Rc.nonneg {c : i8} (h : E3 c = true) {t : Int} (hr : Rc c t) : 0 ≤ t := by
 induction hr with
 | zero => omega
 | step _ ht ih => exact (bB2 h ih ht).1
theorem aK2 {c : i8} (hc : E3 c = true) {bs : List Bool} (hl : bs.length = c.list.length) (hs : ∀ j : Nat, bs[j]? = some true → Rc c j) (h0 : bs[0]? = some true)
  (hcl : ∀ j : Nat, bs[j]? = some true → ∀ t ∈ nx c j, bs[t.toNat]? = some true) : bs = ak2 c := by
 have key : ∀ t : Int, Rc c t → bs[t.toNat]? = some true := by
  intro t ht
  induction ht with
  | zero => exact h0
  | @step i t hi ht ih =>
   have hn := Rc.nonneg hc hi
   exact hcl i.toNat ih t (by rw [show ((i.toNat : Nat) : Int) = i by omega]; exact ht)
 apply List.ext_getElem
 ·simp [ak2, hl]
 ·intro j h1 h2
  have e : (ak2 c)[j] = @decide (Rc c (j : Int)) (Classical.propDecidable _) := by simp [ak2]
  rw [e]
  by_cases hr : Rc c (j : Int)
  ·have := key _ hr
   rw [Int.toNat_natCast, b89 h1] at this
   simp only [Option.some.injEq] at this
   rw [this]; simp [hr]
  ·cases hb : bs[j]
   ·simp [hr]
   ·exact absurd (hs j (by rw [b89 h1, hb])) hr
theorem az4 {bs : List Bool} {k : Nat} (h : bs[k]? = some false) : (bs.set k true).count false + 1 = bs.count false := by
 induction bs generalizing k with
 | nil => simp at h
 | cons b r ih =>
  cases k with
  | zero => simp at h; subst h; simp
  | succ k =>
   simp at h
   have := ih h
   simp only [List.set_cons_succ, List.count_cons]
   omega
theorem aW8 {bs : List Bool} {k j : Nat} (h : (bs.set k true)[j]? = some true) : j = k ∨ bs[j]? = some true := by
 rw [List.getElem?_set] at h
 split at h
 ·rename_i e; exact .inl e.symm
 ·exact .inr h
theorem a31 {bs : List Bool} {k : Nat} (h : k < bs.length) : (bs.set k true)[k]? = some true := by simp [h]
structure bX1 (c : i8) (qs : List Int) (bs : List Bool) : Prop where
 len : bs.length = c.list.length
 cnt : qs.length + bs.count false = c.list.length
 q : ∀ t ∈ qs, 0 ≤ t ∧ t < c.list.length ∧ Rc c t
 sound : ∀ j : Nat, bs[j]? = some true → Rc c j
 inq : ∀ j : Nat, bs[j]? = some true → (j : Int) ∈ qs
 zero : bs[0]? = some true
theorem bX1.start {c : i8} (hc : E3 c = true) : bX1 c [0] ((b82 c.list.length false).set 0 true) := by
 have hn := (C0 hc).2.1
 have hone : ∀ j : Nat, ((b82 c.list.length false).set 0 true)[j]? = some true → j = 0 := by
  intro j h
  rcases aW8 h with h | h
  ·exact h
  ·rw [cc5] at h; split at h <;> simp at h
 refine ⟨by simp, ?_, ?_, ?_, ?_, ?_⟩
 ·have := az4 (bs := b82 c.list.length false) (k := 0) (by rw [cc5, if_pos (by omega)])
  simp at this ⊢
  omega
 ·intro t ht
  simp at ht; subst ht
  exact ⟨by omega, by omega, .zero⟩
 ·intro j h; rw [hone j h]; exact .zero
 ·intro j h; rw [hone j h]; simp
 ·exact a31 (by simp; omega)
def bI1 (c : i8) (qs : List Int) (bs : List Bool) (i : Nat) : Prop := ∀ (m : Nat) (u : Int), m < i → qs[m]? = some u → ∀ t ∈ nx c u, bs[t.toNat]? = some true
theorem bI1.done {c : i8} (hc : E3 c = true) {qs : List Int} {bs : List Bool} (h : bX1 c qs bs) (hcl : bI1 c qs bs qs.length) : bs = ak2 c := by
 refine aK2 hc h.len h.sound h.zero fun j hj t ht => ?_
 obtain ⟨m, hm, he⟩ := List.getElem_of_mem (h.inq j hj)
 exact hcl m j hm (by rw [b89 hm, he]) t ht
structure bj0 (c : i8) (ls : List Int) (bs : List Bool) : Prop where
 len : bs.length = c.list.length
 cnt : ls.length + 2 * bs.count false ≤ 2 * c.list.length + 1
 l : ∀ t ∈ ls, 0 ≤ t ∧ t < c.list.length ∧ Rc c t
 sound : ∀ j : Nat, bs[j]? = some true → Rc c j
 zero : bs[0]? = some true ∨ (0 : Int) ∈ ls
 clos : ∀ j : Nat, bs[j]? = some true → ∀ t ∈ nx c j, bs[t.toNat]? = some true ∨ t ∈ ls
theorem bj0.start {c : i8} (hc : E3 c = true) : bj0 c [0] (b82 c.list.length false) := by
 have hn := (C0 hc).2.1
 refine ⟨by simp, by simp; omega, ?_, ?_, .inr (by simp), ?_⟩
 ·intro t ht
  simp at ht; subst ht
  exact ⟨by omega, by omega, .zero⟩
 ·intro j h; rw [cc5] at h; split at h <;> simp at h
 ·intro j h; rw [cc5] at h; split at h <;> simp at h
theorem bj0.skip {c : i8} {ls : List Int} {i : Int} {bs : List Bool} (h : bj0 c (ls ++ [i]) bs) (hb : bs[i.toNat]? = some true) : bj0 c ls bs := by
 refine ⟨h.len, by have := h.cnt; simp at this; omega, fun t ht => h.l t (List.mem_append_left _ ht), h.sound, ?_, ?_⟩
 ·rcases h.zero with h0 | h0
  ·exact .inl h0
  ·rcases ca1.1 h0 with h0 | h0
   ·exact .inr h0
   ·simp at h0; subst h0; exact .inl hb
 ·intro j hj t ht
  rcases h.clos j hj t ht with h1 | h1
  ·exact .inl h1
  ·rcases ca1.1 h1 with h1 | h1
   ·exact .inr h1
   ·simp at h1; subst h1; exact .inl hb
theorem bj0.done {c : i8} (hc : E3 c = true) {bs : List Bool} (h : bj0 c [] bs) : bs = ak2 c := by
 refine aK2 hc h.len h.sound ?_ fun j hj t ht => ?_
 ·rcases h.zero with h0 | h0
  ·exact h0
  ·simp at h0
 ·rcases h.clos j hj t ht with h1 | h1
  ·exact h1
  ·simp at h1
end Go.Proofs.YthikdkjjdeehoaaGreat

namespace Go.Proofs.YthikdkjjdeehoaaGreat
set_option linter.unusedVariables false
set_option linter.unusedSimpArgs false
open Go Go.RowKit
section
variable {P : Program} {md : Region.Mode} {C : World → Prop}
def R8 (o : Oper) : Oper := { o with op := .move (.const (.bool false)), guard := none }
theorem bd4 {ops ops' : Array Oper} (hs : ops'.size = ops.size) (h : ∀ i : Nat, (ops'[i]?).map (·.after) = (ops[i]?).map (·.after)) (listed : Array Bool) : Region.ready md ops' listed = Region.ready md ops listed := by
 unfold Region.ready
 rw [hs]
 refine List.filter_congr fun i _ => ?_
 have := h i
 cases h1 : ops'[i]? <;> cases h2 : ops[i]? <;> simp [h1, h2] at this ⊢
 rw [this]
def bH5 (ops : Array Oper) : Bool := (ca2 ops.size).all fun j => (ops[j]?).any fun o => o.after.all fun e => decide (e.on < j)
theorem bc5 {ops : Array Oper} (hb : bH5 ops = true) {listed : Array Bool} (hsz : listed.size = ops.size) : ∀ k, k < ops.size → listed.getD k true = false → Region.ready md ops listed ≠ [] := by
 intro k
 induction k using Nat.strongRecOn with
 | _ k ih =>
  intro hk hl hn
  by_cases hall : ∃ j, j < k ∧ listed.getD j true = false
  ·obtain ⟨j, hj, hlj⟩ := hall
   exact ih j hj (by omega) hlj hn
  ·have hok : ops[k]? = some ops[k] := Array.getElem?_eq_getElem hk
   have : k ∈ Region.ready md ops listed := by
    refine mem_ready.2 ⟨hl, ops[k], hok, fun e he _ => ?_⟩
    have h1 := b93.1 hb k (cc6.2 hk)
    rw [hok] at h1
    simp only [Option.any_some] at h1
    have h2 := Array.all_eq_true'.1 h1 e he
    simp only [decide_eq_true_eq] at h2
    cases h3 : listed.getD e.on true
    ·exact absurd ⟨e.on, h2, h3⟩ hall
    ·have : e.on < listed.size := by omega
     simp [this] at h3 ⊢
     exact h3
   rw [hn] at this
   cases this
theorem bq3 {ops ops' : Array Oper} {i : Nat} {Q : Exit → Act → World → Prop} {K : Act → World → Prop} {a : Act} {w : World} (h : ops'[i]? = ops[i]?) (hy : yielded ops' a.tmps = yielded ops a.tmps)
  (hh : wpOp P ops' Q i K a w) : wpOp P ops Q i K a w := by
 unfold wpOp at *
 rw [h, hy] at hh
 exact hh
theorem Y2 {listed : Array Bool} {i : Nat} (h : listed.getD i true = false) : (listed.setIfInBounds i true).toList.count false + 1 = listed.toList.count false := by
 rw [Array.toList_setIfInBounds]
 refine az4 ?_
 rcases ca8 i listed.size with h' | h'
 ·simp [h'] at h ⊢; exact h
 ·simp [Array.getElem?_eq_none h'] at h
theorem a20 {ops : Array Oper} {n : Nat} {o : Oper} (hn : ops.size = n + 1) (ho : ops[n]? = some o) (hdst : o.dst = none) (hs : Region.sinkB md ops n = true) (hc : Region.chainB md ops n = true) (hb : bH5 ops = true)
  {Q : Act → Prop} {Q' : Exit → Act → World → Prop} (hlast : ∀ a w, C w → Q a → wpOp P ops Q' n (Q' .normal) a w) :
  ∀ (fuel : Nat) (listed : Array Bool) (a : Act) (w : World), C w → HeadInv md ops n listed → listed.toList.count false = fuel → wpAnyQ P md (ops.setIfInBounds n (R8 o)) C Q fuel listed a → wpAny P md ops Q' fuel listed a w := by
 have hsame : ∀ i : Nat, i ≠ n → (ops.setIfInBounds n (R8 o))[i]? = ops[i]? := fun i hi => Array.getElem?_setIfInBounds_ne (fun e => hi e.symm)
 have hat : (ops.setIfInBounds n (R8 o))[n]? = some (R8 o) := by simp [hn]
 have hafter : ∀ i : Nat, ((ops.setIfInBounds n (R8 o))[i]?).map (·.after) = (ops[i]?).map (·.after) := fun i => by
  by_cases hi : i = n
  ·subst hi; rw [hat, ho]; rfl
  ·rw [hsame i hi]
 have hready : ∀ listed, Region.ready md (ops.setIfInBounds n (R8 o)) listed = Region.ready md ops listed := bd4 (by simp) hafter
 have hyield : ∀ tmps, yielded (ops.setIfInBounds n (R8 o)) tmps = yielded ops tmps := fun tmps => by
  funext j
  unfold yielded
  by_cases hj : j = n
  ·subst hj; rw [hat, ho]; rfl
  ·rw [hsame j hj]
 intro fuel
 induction fuel with
 | zero =>
  intro listed a w _ inv hcnt _
  have := Y2 (inv.tail n (b94 _) (by omega))
  omega
 | succ f ih =>
  intro listed a w hC inv hcnt h
  obtain ⟨_, h2⟩ := h
  refine ⟨fun h0 => absurd h0 (bc5 hb inv.size n (by omega) (inv.tail n (b94 _) (by omega))), fun i hi => ?_⟩
  have h3 := h2 i (by rw [hready]; exact hi)
  have hun := (mem_ready.1 hi).1
  have hcl := Y2 hun
  rcases ca8 i n with hin | hin
  ·refine bq3 (hsame i (by omega)) (hyield _) (wpOp_of_qOp hC (fun a' w' hC' hK => ih _ a' w' hC' (inv.set hi hin) (by omega) hK) h3)
  ·obtain ⟨_, o', ho', _⟩ := mem_ready.1 hi
   have hisz := (Array.getElem?_eq_some_iff.1 ho').1
   obtain rfl : i = n := by omega
   have hall : ∀ j, j < i → listed.getD j true = true := fun j hj => by
    cases hl : listed.getD j true
    ·exact absurd hi (tail_waits hs hc (by omega) inv _ j rfl hj hl i (b94 _))
    ·rfl
   have hnone : Region.ready md ops (listed.setIfInBounds i true) = [] := by
    rw [List.eq_nil_iff_forall_not_mem]
    intro j hj
    obtain ⟨hj1, oj, hoj, _⟩ := mem_ready.1 hj
    have hjs := (Array.getElem?_eq_some_iff.1 hoj).1
    by_cases hji : j = i
    ·subst hji; simp [inv.size, hn] at hj1
    ·rw [getD_set_ne true (fun e => hji e.symm), hall j (by omega)] at hj1; cases hj1
   have hQ : Q a := by
    have hK : wpAnyQ P md (ops.setIfInBounds i (R8 o)) C Q f (listed.setIfInBounds i true) a := by
     unfold qOp at h3
     rw [hat] at h3
     simp only at h3
     split at h3
     ·obtain ⟨v, _, h4⟩ := h3
      rwa [show (R8 o).dst = none from hdst] at h4
     ·rwa [show (R8 o).dst = none from hdst] at h3
    cases f with
    | zero => exact hK.2
    | succ f => exact hK.1 (by rw [hready]; exact hnone)
   refine wpOp_mono (fun a' w' hq => ?_) (hlast a w hC hQ)
   cases f with
   | zero => exact ⟨hnone, hq⟩
   | succ f => exact ⟨fun _ => hq, fun j hj => by rw [hnone] at hj; cases hj⟩
def bd6 (l : List Oper) (n : Nat) : Bool :=
 match l[n]? with
 | none => false
 | some o => decide (l.length = n + 1) && o.dst.isNone && Region.sinkB .any l.toArray n && Region.chainB .any l.toArray n && bH5 l.toArray && Region.lexB .any (l.set n (R8 o)).toArray
theorem aC9 {id : Nat} {Q : Exit → Act → World → Prop} {a : Act} {w : World} {l : List Oper} (n : Nat) (o : Oper) (ho : l[n]? = some o) (hm : P.follows .mixedOrders = true) (hB : bd6 l n = true) (hC : C { w with drawn := w.drawn + 1 })
  (h : wpQuiet P (l.set n (R8 o)).toArray C (fun a' => ∀ w', C w' → wpList P l.toArray Q [o] a' w') (l.set n (R8 o)) a) : (Code.region id l.toArray true).wp P Q a w := by
 unfold bd6 at hB
 rw [ho] at hB
 simp only [b85, decide_eq_true_eq, Option.isNone_iff_eq_none] at hB
 obtain ⟨⟨⟨⟨⟨hn, hd⟩, hs⟩, hc⟩, hb⟩, hlex⟩ := hB
 simp only [Region.lexB, b85] at hlex
 have hn' : l.toArray.size = n + 1 := by simpa using hn
 have ho' : l.toArray[n]? = some o := by simpa using ho
 have inv0 : HeadInv .any l.toArray n (cb8 l.toArray.size false) :=
  ⟨by simp, fun j oj _ hl => (by rw [getD_replicate_false] at hl; cases hl), fun t _ ht => getD_in (by simpa using ht) (getD_replicate_false _ _)⟩
 have H := wpAnyQ_lex (P := P) (C := C) (md := .any) hlex.1 (l.set n (R8 o)) 0 (cb8 (l.set n (R8 o)).toArray.size false) a (by simp) (by simpa using hlex.2) h
 refine wp_region_any hm (a20 hn' ho' hd hs hc hb (Q := fun a' => ∀ w', C w' → wpList P l.toArray Q [o] a' w') (fun a' w' hC' hq => ?_) _ _ _ _ hC inv0 (by simp) ?_)
 ·have := hq w' hC'
  unfold wpOp
  simp only [ho']
  exact this
 ·simpa using H
theorem v5 {id : Nat} {Q : Exit → Act → World → Prop} {a : Act} {w : World} {l : List Oper} (n : Nat) (o : Oper) (ho : l[n]? = some o) (hm : P.follows .mixedOrders = true) (hB : bd6 l n = true)
  (h : wpQuiet P (l.set n (R8 o)).toArray (fun w' => ∃ X, w' = w.ext X) (fun a' => ∀ w', (∃ X, w' = w.ext X) → wpList P l.toArray Q [o] a' w') (l.set n (R8 o)) a) : (Code.region id l.toArray true).wp P Q a w :=
 aC9 (C := fun w' => ∃ X, w' = w.ext X) n o ho hm hB (aA5 (w' := w.drew) (Below.refl _ _).drew) h
theorem C7 {w : World} {b o : Nat} {v : Bool} (hb : b < w.heap.size) (h : w.frozen? ⟨b, o, none⟩ = v) (X : World) : (w.ext X).frozen? ⟨b, o, none⟩ = v := by
 rw [(K0 (l7 w X)).2 b o hb]; exact h
end
abbrev ints (l : List Int) : List Value := l.map (Value.int .i64)
theorem al5 (l : List Int) (k : Nat) (h : k < l.length) : (ints l)[k]? = some (.int .i64 l[k]) := by simp [ints, h]
theorem bn3 : (Tryz.prog.info? 3).map (fun i => (i.zero, i.size, i.bytes)) = some (some (.int .i64 0), 1, 8) := by kernel_rfl
def bf1 (K n : Nat) : List Int := (ca2 n).map fun (j : Nat) => ((K : Int) + (j : Int))
abbrev ah7 (w : World) (v : Value) (l : List d9) : Prop := N3 w v l.length 5 (ints (T2 l))
theorem N3.ins {w : World} {v : Value} {l : List d9} (h : ah7 w v l) : ∃ a cap, v = .slice a l.length cap ∧ l.length ≤ cap ∧ l.length ≤ 9223372036854775807 ∧ cap ≤ 9223372036854775807 ∧
  ∀ i (hi : i < l.length), ∃ b off, a = some ⟨b, off, none⟩ ∧ b < w.heap.size ∧ w.cell? ⟨b, off + i * 5, none⟩ = some (.int .i64 l[i].op) ∧ w.cell? ⟨b, off + i * 5 + 1, none⟩ = some (.int .i64 l[i].a) ∧
   w.cell? ⟨b, off + i * 5 + 2, none⟩ = some (.int .i64 l[i].b) ∧ w.cell? ⟨b, off + i * 5 + 3, none⟩ = some (.int .i64 l[i].c) ∧ w.cell? ⟨b, off + i * 5 + 4, none⟩ = some (.int .i64 l[i].d) := by
 obtain ⟨a, cap, h0, h1, h2, h3, h4⟩ := h.open
 refine ⟨a, cap, h0, h1, h2, h3, fun i hi => ?_⟩
 obtain ⟨b, off, e, hb, hc⟩ := h4 i hi
 obtain ⟨g0, g1, g2, g3, g4⟩ := a58 l i hi
 have c0 := hc 0 (by omega)
 have c1 := hc 1 (by omega)
 have c2 := hc 2 (by omega)
 have c3 := hc 3 (by omega)
 have c4 := hc 4 (by omega)
 simp only [cc8, List.getElem?_map, g0, g1, g2, g3, g4, Option.map_some] at c0 c1 c2 c3 c4
 exact ⟨b, off, e, hb, c0, c1, c2, c3, c4⟩
abbrev d9.v (x : d9) : Value := .agg #[.int .i64 x.op, .int .i64 x.a, .int .i64 x.b, .int .i64 x.c, .int .i64 x.d]
def G6 (w : World) (v : Value) (c : i8) : Prop :=
 ∃ v1 v2 v3, v = .agg #[v1, v2, v3] ∧ N3 w v1 c.vars.length 1 (ints c.vars) ∧ N3 w v2 c.arrays.length 1 (ints c.arrays) ∧ ah7 w v3 c.list
def T0 (w : World) (lo hi : Nat) (v : Value) (c : i8) : Prop :=
 ∃ v1 v2 v3, v = .agg #[v1, v2, v3] ∧ I8 w lo hi 3 1 v1 c.vars.length (ints c.vars) ∧ I8 w lo hi 3 1 v2 c.arrays.length (ints c.arrays) ∧ I8 w lo hi 86 5 v3 c.list.length (ints (T2 c.list)) ∧
  aE4 v1 v2 ∧ aE4 v1 v3 ∧ aE4 v2 v3
theorem G6.below {w w' : World} {v : Value} {c : i8} (h : G6 w v c) (hb : Below w.heap.size w w') : G6 w' v c := by
 obtain ⟨v1, v2, v3, rfl, h1, h2, h3⟩ := h
 exact ⟨v1, v2, v3, rfl, h1.below hb, h2.below hb, h3.below hb⟩
theorem T0.row {w : World} {lo hi : Nat} {v : Value} {c : i8} (h : T0 w lo hi v c) : G6 w v c := by
 obtain ⟨v1, v2, v3, rfl, h1, h2, h3, _⟩ := h
 exact ⟨v1, v2, v3, rfl, h1.row, h2.row, h3.row⟩
theorem T0.keep {w w' : World} {lo hi B : Nat} {v : Value} {c : i8} (h : T0 w lo hi v c) (hb : Below B w w') (hB : hi ≤ B) : T0 w' lo hi v c := by
 obtain ⟨v1, v2, v3, rfl, h1, h2, h3, hd⟩ := h
 exact ⟨v1, v2, v3, rfl, h1.keep hb hB, h2.keep hb hB, h3.keep hb hB, hd⟩
theorem T0.out {w w' : World} {lo hi lo' hi' : Nat} {v : Value} {c : i8} (h : T0 w lo hi v c) (hb : Out lo' hi' w w') (hB : hi ≤ lo' ∨ hi' ≤ lo) : T0 w' lo hi v c := by
 obtain ⟨v1, v2, v3, rfl, h1, h2, h3, hd⟩ := h
 exact ⟨v1, v2, v3, rfl, h1.out hb hB, h2.out hb hB, h3.out hb hB, hd⟩
theorem T0.wide {w : World} {lo hi lo' hi' : Nat} {v : Value} {c : i8} (h : T0 w lo hi v c) (h1 : lo' ≤ lo) (h2 : hi ≤ hi') : T0 w lo' hi' v c := by
 obtain ⟨v1, v2, v3, rfl, g1, g2, g3, hd⟩ := h
 exact ⟨v1, v2, v3, rfl, g1.wide h1 h2, g2.wide h1 h2, g3.wide h1 h2, hd⟩
def aA7 (w : World) (v : Value) (K nv na nl : Nat) : Prop :=
 ∃ v1 v2 v3, v = .agg #[v1, v2, v3] ∧ N3 w v1 nv 1 (ints (bf1 K nv)) ∧ N3 w v2 na 1 (ints (bf1 (K + nv) na)) ∧ N3 w v3 nl 5 (ints (bf1 (K + nv + na) (nl * 5)))
theorem aA7.below {w w' : World} {v : Value} {K nv na nl : Nat} (h : aA7 w v K nv na nl) (hb : Below w.heap.size w w') : aA7 w' v K nv na nl := by
 obtain ⟨v1, v2, v3, rfl, h1, h2, h3⟩ := h
 exact ⟨v1, v2, v3, rfl, h1.below hb, h2.below hb, h3.below hb⟩
theorem bD0 {l : List Int} : ∀ u ∈ ints l, u.oneCell' = true := by
 intro u hu
 obtain ⟨x, _, rfl⟩ := List.mem_map.1 hu
 rfl
theorem a39 {P : Program} {w : World} {lo : Nat} {t ty e : TypeId} {i : TypeInfo} {size : Nat} (ht : P.underlying t = some (.slice e)) (hi : P.info? e = some i)
  {v : Value} {n : Nat} {xs : List Value} (hown : w.ownsRow lo e size v n xs) (c : Nat) : (Builtin.append_ #[t, t] ty #[v, .slice none 0 c]).run P w = .ok v w := by
 obtain ⟨_, h⟩ := hown
 rcases h with ⟨rfl, rfl⟩ | ⟨g, cap, cur, rfl, _, _, hnc, _⟩
 ·simp [Builtin.append_, run_underlying ht, sizeOf, typeInfo, hi, Builtin.lenOf, Builtin.firstCells]
 ·simp [Builtin.append_, run_underlying ht, sizeOf, typeInfo, hi, Builtin.lenOf, Builtin.firstCells, hnc, storeCells]
theorem aT3 {w : World} {lo : Nat} {e : TypeId} {sz : Nat} {v : Value} {n : Nat} {xs : List Value} (h : w.ownsRow lo e sz v n xs) : ∃ a k, v = .slice a n k := by
 rcases h.2 with ⟨rfl, rfl⟩ | ⟨g, cap, cur, rfl, _⟩
 ·exact ⟨_, _, rfl⟩
 ·exact ⟨_, _, rfl⟩
theorem au1 {P : Program} {w : World} {lo : Nat} {t ty e : TypeId} {z : Value} {size bytes : Nat} (ht : P.underlying t = some (.slice e)) (hi : (P.info? e).map (fun i => (i.zero, i.size, i.bytes)) = some (some z, size, bytes))
  (hzs : z.cells.size = size) (hsz : 0 < size) {v : Value} {n : Nat} {xs : List Value} (hown : w.ownsRow lo e size v n xs) {u : Value} {m : Nat} {news : List Value} (hr : N3 w u m size news) (h1 : ∀ u ∈ news, u.oneCell' = true)
  (h63 : n + m ≤ 9223372036854775807) (hbytes : (n + m) * bytes ≤ 140737488355328) (hbase : lo ≤ w.heap.size) :
  ∃ a' k' w', (Builtin.append_ #[t, t] ty #[v, u]).run P w = .ok (.slice a' (n + m) k') w' ∧ w'.ownsRow lo e size (.slice a' (n + m) k') (n + m) (xs ++ news) ∧ Below lo w w' ∧ w.grownBy w' v.ownBlock ∧ (∀ g, (Value.slice a' (n + m) k').ownBlock = some g → v.ownBlock = some g ∨ w.heap.size ≤ g) := by
 obtain ⟨i, g1, g2, g3, g4⟩ := info_parts hi
 obtain ⟨hl, A, c, rfl, hmc, hc, hA⟩ := hr
 have below_of : ∀ {w' : World}, w.grownBy w' v.ownBlock → Below lo w w' := fun {w'} hg => by
  refine ⟨hg.os, hg.tape, hg.output, hg.size, fun k hk => hg.block k (by omega) fun he => ?_⟩
  have := hown.lt k he.symm
  omega
 rcases A with _ | a
 ·have hm : m = 0 := by
   rcases Nat.eq_zero_or_pos m with h0 | h0
   ·exact h0
   ·obtain ⟨_, _, he, _⟩ := hA h0; cases he
  subst hm
  have hn : news = [] := ca3 (by simpa using hl)
  subst hn
  obtain ⟨a', k', rfl⟩ := aT3 hown
  exact ⟨a', k', w, a39 ht g1 hown c, by simpa using hown, Below.refl _ _, ⟨rfl, rfl, rfl, b94 _, fun _ _ _ => rfl⟩, fun g hg => .inl hg⟩
 ·have hcells : ∀ j u, news[j]? = some u → w.cell? (a.add j) = some u := by
   intro j u hu
   have h0 : 0 < m := by
    rcases Nat.eq_zero_or_pos m with h0 | h0
    ·subst h0
     have hn : news = [] := ca3 (by simpa using hl)
     subst hn; simp at hu
    ·exact h0
   obtain ⟨b, off, he, hb, hx⟩ := hA h0
   cases he
   have hadd : (⟨b, off, none⟩ : Addr).add j = ⟨b, off + j, none⟩ := by unfold Addr.add; split <;> simp_all
   rw [hadd]
   exact hx j u hu
  obtain ⟨v', w', hrun, h2, h3, _, h5⟩ := run_append_own_at (P := P) w lo t ty e i z size bytes ht g1 g2 g3 g4 hzs hsz v n xs hown a m c news hl hcells h1 (by unfold maxLen; omega) hbytes hbase
  obtain ⟨a', k', rfl⟩ := aT3 h2
  exact ⟨a', k', w', hrun, h2, below_of h3, h3, fun g hg => h5.elim (fun h => .inl (h ▸ hg)) fun h => .inr (by rw [h] at hg; cases hg; exact b94 _)⟩
theorem Y9 {P : Program} {w : World} {ops : Array Oper} {rest : List Oper} {o : Oper} {a : Act} {Q : Exit → Act → World → Prop} {lo : Nat} {t e : TypeId} {z : Value} {size bytes : Nat} {v : Value} {n : Nat} {xs : List Value} {u : Value} {m : Nat} {news : List Value}
  (hgd : o.guard = none) (s x : Operand) (ho : o.op = .call { callee := .builtin .append, args := #[s, x], argTypes := #[t, t] })
  (ht : P.underlying t = some (.slice e)) (hi : (P.info? e).map (fun i => (i.zero, i.size, i.bytes)) = some (some z, size, bytes))
  (hzs : z.cells.size = size) (hsz : 0 < size) (hs : a.eval s = v) (hown : w.ownsRow lo e size v n xs) (hx : a.eval x = u) (hr : N3 w u m size news) (h1 : ∀ u ∈ news, u.oneCell' = true)
  (h63 : n + m ≤ 9223372036854775807) (hbytes : (n + m) * bytes ≤ 140737488355328) (hbase : lo ≤ w.heap.size)
  (h : ∀ a' k' w', w'.ownsRow lo e size (.slice a' (n + m) k') (n + m) (xs ++ news) → Below lo w w' → w.grownBy w' v.ownBlock → (∀ g, (Value.slice a' (n + m) k').ownBlock = some g → v.ownBlock = some g ∨ w.heap.size ≤ g) → wpList P ops Q rest (a.put o.dst (.slice a' (n + m) k')) w') : wpList P ops Q (o :: rest) a w := by
 refine wpList_plain hgd fun K hK => ?_
 obtain ⟨a', k', w', hrun, h2, h3, h4, h5⟩ := au1 (ty := o.type) ht hi hzs hsz hown hr h1 h63 hbytes hbase
 unfold Oper.wp execOp
 simp only [ho, resolve, invoke, builtin, Sem.run_bind, Sem.run_pure, Result.andThen_ok, List.map_toArray, cc2, List.map_nil, hs, hx, hrun]
 exact hK _ _ (h a' k' w' h2 h3 h4 h5)
theorem bK1 (w : World) (u : Value) (T : TypeId) : N3 (w.alloc (.cells #[u] T)) (.slice (some ⟨w.heap.size, 0, none⟩) 1 1) 1 1 [u] := by
 refine ⟨rfl, _, _, rfl, b94 _, by unfold maxLen; omega, fun _ => ⟨_, _, rfl, by simp, fun j x hj => ?_⟩⟩
 match j, hj with
 | 0, hj =>
  simp at hj
  subst hj
  simp
theorem aK0 (w : World) (u : Value) (T : TypeId) {g : Nat} (hg : g = w.heap.size) : N3 (w.alloc (.cells #[u] T)) (.slice (some ⟨g, 0, none⟩) 1 1) 1 1 [u] := by
 subst hg; exact bK1 w u T
section
variable {P : Program}
theorem bq2 {x : Oper} {a : Act} {w : World} {K : Act → World → Prop} {Q Q0 : Exit → Act → World → Prop} (h0 : ∀ e a w, Q0 e a w → e = .normal) (h : x.wp P a w K Q0) : x.wp P a w K Q := by
 unfold Oper.wp at *
 generalize (execOp a.eval x).run P w = r at *
 cases r with
 | ok n w' =>
  cases n <;> simp only [Oper.upon] at h ⊢ <;>
   first
    | exact h
    | exact Calls.mono h (fun e w'' he => by
      cases e
      ·exact he
      ·exact absurd (h0 _ _ _ he) (by simp)
      ·obtain ⟨a, w, hq⟩ := he; exact absurd (h0 _ _ _ hq) (by simp))
 | halt y w' =>
  cases y <;> simp only [Oper.upon] at h ⊢ <;> first | exact h | exact absurd (h0 _ _ _ h) (by simp)
end
section
variable {P : Program}
structure b80 (mk : (Nat → Value) → Act) (C : World → Prop) (R : Nat → Value → World → Prop) (n : Nat) (listed : Array Bool) (f : Nat → Value) (a : Act) (w : World) : Prop where
 act : a = mk f
 cls : C w
 val : ∀ i, i < n → listed.getD i false = true → R i (f i) w
end
def Agr (φ φ' : Nat → Prop) (w w' : World) : Prop := w.heap.size ≤ w'.heap.size ∧ ∀ b, b < w.heap.size → φ b → φ' b ∧ w'.heap[b]? = w.heap[b]?
def ah6 (R : World → (Nat → Prop) → Prop) : Prop := ∀ w w' φ φ', Agr φ φ' w w' → R w φ → R w' φ'
theorem Agr.below {φ : Nat → Prop} {w w' : World} (h : Below w.heap.size w w') : Agr φ φ w w' := ⟨h.size, fun b hb hf => ⟨hf, h.block b hb⟩⟩
theorem Agr.mono {φ φ' : Nat → Prop} {w : World} (h : ∀ b, b < w.heap.size → φ b → φ' b) : Agr φ φ' w w := ⟨b94 _, fun b hb hf => ⟨h b hb hf, rfl⟩⟩
theorem Agr.cell {φ φ' : Nat → Prop} {w w' : World} (h : Agr φ φ' w w') {b o : Nat} (hb : b < w.heap.size) (hf : φ b) : w'.cell? ⟨b, o, none⟩ = w.cell? ⟨b, o, none⟩ := by
 simp only [World.cell?, (h.2 b hb hf).2]
def z8 (w : World) (φ : Nat → Prop) (v : Value) (n sz : Nat) (xs : List Value) : Prop :=
 xs.length = n * sz ∧ ∃ a cap, v = .slice a n cap ∧ n ≤ cap ∧ cap ≤ maxLen ∧
  (0 < n → ∃ b off, a = some ⟨b, off, none⟩ ∧ b < w.heap.size ∧ φ b ∧ ∀ j u, xs[j]? = some u → w.cell? ⟨b, off + j, none⟩ = some u)
theorem z8.nice (v : Value) (n sz : Nat) (xs : List Value) : ah6 fun w φ => z8 w φ v n sz xs := by
 rintro w w' φ φ' ha ⟨hl, a, cap, rfl, h1, h2, h3⟩
 refine ⟨hl, a, cap, rfl, h1, h2, fun hn => ?_⟩
 obtain ⟨b, off, rfl, hb, hf, hc⟩ := h3 hn
 exact ⟨b, off, rfl, cd2 hb ha.1, (ha.2 b hb hf).1, fun j u hj => (ha.cell hb hf).trans (hc j u hj)⟩
theorem z8.row {w : World} {φ : Nat → Prop} {v : Value} {n sz : Nat} {xs : List Value} (h : z8 w φ v n sz xs) : N3 w v n sz xs := by
 obtain ⟨hl, a, cap, rfl, h1, h2, h3⟩ := h
 refine ⟨hl, a, cap, rfl, h1, h2, fun hn => ?_⟩
 obtain ⟨b, off, rfl, hb, _, hc⟩ := h3 hn
 exact ⟨b, off, rfl, hb, hc⟩
theorem N3.rowF {w : World} {v : Value} {n sz : Nat} {xs : List Value} (h : N3 w v n sz xs) {φ : Nat → Prop} (hf : ∀ b, b < w.heap.size → φ b) : z8 w φ v n sz xs := by
 obtain ⟨hl, a, cap, rfl, h1, h2, h3⟩ := h
 refine ⟨hl, a, cap, rfl, h1, h2, fun hn => ?_⟩
 obtain ⟨b, off, rfl, hb, hc⟩ := h3 hn
 exact ⟨b, off, rfl, hb, hf b hb, hc⟩
theorem z8.nil (w : World) (φ : Nat → Prop) (sz : Nat) : z8 w φ (.slice none 0 0) 0 sz [] := ⟨by simp, none, 0, rfl, b94 _, by unfold maxLen; omega, fun h => absurd h (by omega)⟩
theorem E8 {w : World} {lo : Nat} {e : TypeId} {sz : Nat} {v : Value} {n : Nat} {xs : List Value} (h : w.ownsRow lo e sz v n xs) {φ : Nat → Prop} (hf : ∀ g, v.ownBlock = some g → φ g) : z8 w φ v n sz xs := by
 obtain ⟨hl, a, cap, hv, h1, h2, h3⟩ := ak5 h
 refine ⟨hl, a, cap, hv, h1, h2, fun hn => ?_⟩
 obtain ⟨b, off, he, hb, hc⟩ := h3 hn
 refine ⟨b, off, he, hb, ?_, hc⟩
 rcases h.2 with ⟨hv', h0⟩ | ⟨g, cap', cur, hv', _⟩
 ·omega
 ·rw [hv'] at hv
  cases hv
  cases he
  exact hf _ (by rw [hv']; rfl)
inductive Res where
 | box (b : Nat) (cs : List Value)
 | row (e : TypeId) (sz : Nat) (v : Value) (n : Nat) (xs : List Value)
 | dat (R : World → (Nat → Prop) → Prop)
 | own (S : Nat → Prop) (R : World → Prop)
def Res.blk : Res → Nat → Prop
 | .box b _ => fun g => g = b
 | .row _ _ v _ _ => fun g => v.ownBlock = some g
 | .dat _ => fun _ => False
 | .own S _ => S
def Fr (φ : Nat → Prop) (L : List Res) (b : Nat) : Prop := φ b ∧ ∀ r ∈ L, ¬ r.blk b
def Res.holds (w : World) (φ : Nat → Prop) : Res → Prop
 | .box b cs => H7 w b cs
 | .row e sz v n xs => w.ownsRow 0 e sz v n xs
 | .dat R => ah6 R ∧ R w φ
 | .own S R => (∀ w w', R w → (∀ b, S b → b < w.heap.size → w'.heap[b]? = w.heap[b]?) → R w') ∧ R w ∧ ∀ b, S b → b < w.heap.size
structure D8 (ψ : Nat → Prop) (w w' : World) : Prop where
 os : w'.os = w.os
 tape : w'.tape = w.tape
 output : w'.output = w.output
 size : w.heap.size ≤ w'.heap.size
 block : ∀ b, b < w.heap.size → ψ b → w'.heap[b]? = w.heap[b]?
theorem D8.refl (ψ : Nat → Prop) (w : World) : D8 ψ w w := ⟨rfl, rfl, rfl, b94 _, fun _ _ _ => rfl⟩
theorem D8.trans {ψ : Nat → Prop} {a b c : World} (h : D8 ψ a b) (k : D8 ψ b c) : D8 ψ a c :=
 ⟨k.os.trans h.os, k.tape.trans h.tape, k.output.trans h.output, cb5 h.size k.size, fun i hi hp => (k.block i (cd2 hi h.size) hp).trans (h.block i hi hp)⟩
theorem D8.of_below {ψ : Nat → Prop} {w w' : World} {B : Nat} (h : Below B w w') (hB : ∀ b, b < w.heap.size → ψ b → b < B) : D8 ψ w w' := ⟨h.os, h.tape, h.output, h.size, fun b hb hp => h.block b (hB b hb hp)⟩
theorem D8.below {w w' : World} {ψ : Nat → Prop} (h : D8 ψ w w') (hp : ∀ b, b < w.heap.size → ψ b) : Below w.heap.size w w' := ⟨h.os, h.tape, h.output, h.size, fun b hb => h.block b hb (hp b hb)⟩
structure C1 (φ ψ : Nat → Prop) (w0 w : World) (L : List Res) : Prop where
 kept : D8 ψ w0 w
 fresh : ∀ b, w0.heap.size ≤ b → φ b
 holds : ∀ (r : Res), r ∈ L → r.holds w (Fr φ L)
 dis : ∀ (i j : Nat) (a b : Res) (g : Nat), L[i]? = some a → L[j]? = some b → i ≠ j → a.blk g → ¬ b.blk g
 ge : ∀ (r : Res) (b : Nat), r ∈ L → r.blk b → w0.heap.size ≤ b ∨ ¬ ψ b
section
variable {φ ψ : Nat → Prop} {w0 w w' : World} {L : List Res}
theorem C1.start (hf : ∀ b, w0.heap.size ≤ b → φ b) : C1 φ ψ w0 w0 [] := ⟨D8.refl _ _, hf, (fun _ h => by cases h), (fun i j a b g h => by simp at h), (fun _ _ h => by cases h)⟩
theorem Res.lt {r : Res} (h : r.holds w φ) {b : Nat} (hb : r.blk b) : b < w.heap.size := by
 cases r with
 | box b' cs => cases hb; exact H7.lt h
 | row e sz v n xs => exact (World.ownsRow.lt h b hb).2
 | dat R => cases hb
 | own S R => exact h.2.2 b hb
theorem C1.lt (M : C1 φ ψ w0 w L) {r : Res} (hr : r ∈ L) {b : Nat} (hb : r.blk b) : b < w.heap.size := Res.lt (M.holds r hr) hb
theorem C1.size (M : C1 φ ψ w0 w L) : w0.heap.size ≤ w.heap.size := M.kept.size
theorem C1.below (M : C1 φ ψ w0 w L) (hp : ∀ b, b < w0.heap.size → ψ b) : Below w0.heap.size w0 w := M.kept.below hp
theorem Res.keep {φ' : Nat → Prop} {r : Res} (h : r.holds w φ) (ha : Agr φ φ' w w') (hb : ∀ b, r.blk b → w'.heap[b]? = w.heap[b]?) : r.holds w' φ' := by
 cases r with
 | box b cs => obtain ⟨T, h⟩ := h; exact ⟨T, (hb b rfl).trans h⟩
 | row e sz v n xs => exact (I8.same (lo := 0) (hi := w.heap.size) ⟨h, fun g hg => (World.ownsRow.lt h g hg).2⟩ hb).1
 | dat R => exact ⟨h.1, h.1 _ _ _ _ ha h.2⟩
 | own S R => exact ⟨h.1, h.1 _ _ h.2.1 fun b hs _ => hb b hs, fun b hs => cd2 (h.2.2 b hs) ha.1⟩
theorem C1.call (M : C1 φ ψ w0 w L) (b : Below w.heap.size w w') : C1 φ ψ w0 w' L :=
 ⟨M.kept.trans (D8.of_below b fun _ h _ => h), M.fresh, fun r hr => Res.keep (M.holds r hr) (Agr.below b) fun g hg => b.block g (M.lt hr hg), M.dis, M.ge⟩
theorem C1.drew (M : C1 φ ψ w0 w L) : C1 φ ψ w0 w.drew L := M.call (Below.refl _ _).drew
theorem Fr.snoc {r : Res} {b : Nat} : Fr φ (L ++ [r]) b ↔ Fr φ L b ∧ ¬ r.blk b := by
 unfold Fr
 constructor
 ·rintro ⟨h1, h2⟩; exact ⟨⟨h1, fun x hx => h2 x (by simp [hx])⟩, h2 r (by simp)⟩
 ·rintro ⟨⟨h1, h2⟩, h3⟩
  refine ⟨h1, fun x hx => ?_⟩
  simp only [ca1, ca4] at hx
  rcases hx with hx | rfl
  ·exact h2 x hx
  ·exact h3
theorem C1.add (M : C1 φ ψ w0 w L) (b : Below w.heap.size w w') (r : Res) (h : r.holds w' (Fr φ (L ++ [r]))) (hg : ∀ g, r.blk g → w.heap.size ≤ g) : C1 φ ψ w0 w' (L ++ [r]) := by
 have M' := M.call b
 refine ⟨M'.kept, M.fresh, fun x hx => ?_, fun i j x y g hi hj hij hx hy => ?_, fun x g hx hxg => ?_⟩
 ·simp only [ca1, ca4] at hx
  rcases hx with hx | rfl
  ·exact Res.keep (M.holds x hx) ⟨b.size, fun c hc hf => ⟨Fr.snoc.2 ⟨hf, fun he => by have := hg c he; omega⟩, b.block c hc⟩⟩ fun g hgx => b.block g (M.lt hx hgx)
  ·exact h
 ·have lt : ∀ (k : Nat) (z : Res), (L ++ [r])[k]? = some z → (k < L.length ∧ L[k]? = some z) ∨ (k = L.length ∧ z = r) := by
   intro k z hz
   rcases ca8 k L.length with hk | hk
   ·rw [cb9 hk] at hz; exact .inl ⟨hk, hz⟩
   ·rw [cc9 hk] at hz
    have : k - L.length = 0 := by
     rcases Nat.eq_zero_or_pos (k - L.length) with h | h
     ·exact h
     ·rw [cb3 (by rw [List.length_singleton]; exact h)] at hz; cases hz
    rw [this] at hz; simp at hz
    exact .inr ⟨by omega, hz.symm⟩
  rcases lt i x hi with ⟨hi', h1⟩ | ⟨hi', rfl⟩ <;> rcases lt j y hj with ⟨hj', h2⟩ | ⟨hj', rfl⟩
  ·exact M.dis i j x y g h1 h2 hij hx hy
  ·have := M.lt (ca7 h1) hx; have := hg g hy; omega
  ·have := M.lt (ca7 h2) hy; have := hg g hx; omega
  ·omega
 ·simp only [ca1, ca4] at hx
  rcases hx with hx | rfl
  ·exact M.ge x g hx hxg
  ·exact .inl (cb5 M.size (hg g hxg))
theorem C1.box (M : C1 φ ψ w0 w L) (cs : List Value) (T : TypeId) : C1 φ ψ w0 (w.alloc (.cells cs.toArray T)) (L ++ [.box w.heap.size cs]) :=
 M.add ((Below.refl _ _).alloc (b94 _) _) _ (H7.new w cs T) fun g hg => by cases hg; exact b94 _
theorem C1.box' (M : C1 φ ψ w0 w L) (cs : List Value) (T : TypeId) {b : Nat} (hb : b = w.heap.size) : C1 φ ψ w0 (w.alloc (.cells cs.toArray T)) (L ++ [.box b cs]) := by subst hb; exact M.box cs T
theorem C1.dat (M : C1 φ ψ w0 w L) {R : World → (Nat → Prop) → Prop} (hn : ah6 R) (h : R w (Fr φ L)) : C1 φ ψ w0 w (L ++ [.dat R]) :=
 M.add (Below.refl _ _) _ ⟨hn, hn _ _ _ _ (Agr.mono fun b _ hf => Fr.snoc.2 ⟨hf, fun h => by cases h⟩) h⟩ fun g hg => by cases hg
theorem C1.nil (M : C1 φ ψ w0 w L) (e : TypeId) (sz : Nat) : C1 φ ψ w0 w (L ++ [.row e sz (.slice none 0 0) 0 []]) :=
 M.add (Below.refl _ _) _ (World.ownsRow_nil _ _ _ _) fun g hg => by cases hg
theorem Fr.set {r : Res} {i : Nat} {a : Res} (_hi : L[i]? = some a) {b : Nat} (h : Fr φ L b) (hr : ¬ r.blk b) : Fr φ (L.set i r) b :=
 ⟨h.1, fun x hx => by
  rcases List.mem_or_eq_of_mem_set hx with hx | rfl
  ·exact h.2 x hx
  ·exact hr⟩
theorem C1.put (M : C1 φ ψ w0 w L) {i : Nat} {a : Res} (hi : L[i]? = some a) (r : Res) (hk : D8 (fun b => ¬ a.blk b) w w') (h : r.holds w' (Fr φ (L.set i r))) (hg : ∀ g, r.blk g → a.blk g ∨ w.heap.size ≤ g) : C1 φ ψ w0 w' (L.set i r) := by
 have hil := (b96.1 hi).1
 have ha := ca7 hi
 have get : ∀ (j : Nat) (z : Res), (L.set i r)[j]? = some z → (j ≠ i ∧ L[j]? = some z) ∨ (j = i ∧ z = r) := by
  intro j z hz
  by_cases e : j = i
  ·subst e; rw [List.getElem?_set_self hil] at hz; exact .inr ⟨rfl, (Option.some.inj hz).symm⟩
  ·rw [List.getElem?_set_ne (fun h => e h.symm)] at hz; exact .inl ⟨e, hz⟩
 refine ⟨⟨hk.os.trans M.kept.os, hk.tape.trans M.kept.tape, hk.output.trans M.kept.output, cb5 M.size hk.size, fun b hb hp => (hk.block b (cd2 hb M.size) fun he => ?_).trans (M.kept.block b hb hp)⟩, M.fresh, fun x hx => ?_, fun j k x y g hj hk' hjk hx hy => ?_, fun x g hx hxg => ?_⟩
 ·rcases M.ge a b ha he with h' | h'
  ·omega
  ·exact h' hp
 ·obtain ⟨j, hj⟩ := List.mem_iff_getElem?.1 hx
  rcases get j x hj with ⟨hne, hj'⟩ | ⟨_, rfl⟩
  ·refine Res.keep (M.holds x (ca7 hj')) ⟨hk.size, fun b hb hf => ⟨Fr.set hi hf fun he => ?_, hk.block b hb (hf.2 a ha)⟩⟩ fun g hgx => hk.block g (M.lt (ca7 hj') hgx) fun he => M.dis i j a x g hi hj' (fun e => hne e.symm) he hgx
   rcases hg b he with h' | h'
   ·exact hf.2 a ha h'
   ·omega
  ·exact h
 ·rcases get j x hj with ⟨hne, hj'⟩ | ⟨e1, rfl⟩ <;> rcases get k y hk' with ⟨hne', hk''⟩ | ⟨e2, rfl⟩
  ·exact M.dis j k x y g hj' hk'' hjk hx hy
  ·rcases hg g hy with h' | h'
   ·exact M.dis j i x a g hj' hi hne hx h'
   ·have := M.lt (ca7 hj') hx; omega
  ·rcases hg g hx with h' | h'
   ·exact M.dis i k a y g hi hk'' (fun e => hne' e.symm) h' hy
   ·have := M.lt (ca7 hk'') hy; omega
  ·omega
 ·obtain ⟨j, hj⟩ := List.mem_iff_getElem?.1 hx
  rcases get j x hj with ⟨hne, hj'⟩ | ⟨_, rfl⟩
  ·exact M.ge x g (ca7 hj') hxg
  ·rcases hg g hxg with h' | h'
   ·exact M.ge a g ha h'
   ·exact .inl (cb5 M.size h')
theorem D8.mono {ψ ψ' : Nat → Prop} {w w' : World} (h : D8 ψ w w') (hp : ∀ b, ψ' b → ψ b) : D8 ψ' w w' := ⟨h.os, h.tape, h.output, h.size, fun b hb hp' => h.block b hb (hp b hp')⟩
theorem D8.setCell (w : World) (b j : Nat) (u : Value) : D8 (fun c => ¬ c = b) w (w.setCell ⟨b, j, none⟩ u) :=
 ⟨rfl, rfl, rfl, by simp [World.setCell], fun c _ hc => Below.heap_setCell _ _ _ _ hc⟩
theorem C1.set (M : C1 φ ψ w0 w L) (i : Nat) {b : Nat} {cs : List Value} (hi : L[i]? = some (.box b cs)) (j : Nat) (u : Value) : C1 φ ψ w0 (w.setCell ⟨b, j, none⟩ u) (L.set i (.box b (cs.set j u))) :=
 M.put hi _ (D8.setCell w b j u) (H7.set (M.holds _ (ca7 hi)) u) fun _ hg => .inl hg
theorem C1.setFrom (us : List Value) : ∀ {w : World} {L : List Res} {p : Nat} {cs : List Value}, C1 φ ψ w0 w L → ∀ (i : Nat) {b : Nat}, L[i]? = some (.box b cs) → C1 φ ψ w0 (World.setFrom w b p us) (L.set i (.box b (Go.Proofs.YthikdkjjdeehoaaGreat.setFrom cs p us))) := by
 induction us with
 | nil =>
  intro w L p cs M i b hi
  have : L.set i (.box b cs) = L := by
   apply List.ext_getElem?
   intro j
   rw [List.getElem?_set]
   split
   ·rename_i e; subst e; rw [if_pos (b96.1 hi).1, hi]
   ·rfl
  show C1 φ ψ w0 w (L.set i (.box b cs))
  rw [this]; exact M
 | cons u r ih =>
  intro w L p cs M i b hi
  have h1 := M.set i hi p u
  have h2 := ih (p := p + 1) h1 i (by rw [List.getElem?_set_self (b96.1 hi).1])
  rw [List.set_set] at h2
  exact h2
theorem a35 {cs us : List Value} (h : us.length = cs.length) : Go.Proofs.YthikdkjjdeehoaaGreat.setFrom cs 0 us = us := by
 have h1 := at9 us cs 0 (by omega)
 rw [cc3, b98 (by rw [K4]; omega)] at h1
 simpa using h1
theorem C1.fill (M : C1 φ ψ w0 w L) (i : Nat) {b : Nat} {cs : List Value} (hi : L[i]? = some (.box b cs)) (us : List Value) (h : us.length = cs.length) : C1 φ ψ w0 (World.setFrom w b 0 us) (L.set i (.box b us)) := by
 have h1 := M.setFrom us (p := 0) i hi
 rwa [a35 h] at h1
theorem C1.callB (M : C1 φ ψ w0 w L) (i : Nat) {b : Nat} {cs cs' : List Value} (hi : L[i]? = some (.box b cs)) (hk : D8 (fun c => ¬ c = b) w w') (h : H7 w' b cs') : C1 φ ψ w0 w' (L.set i (.box b cs')) :=
 M.put hi _ hk h fun _ hg => .inl hg
theorem C1.app (M : C1 φ ψ w0 w L) (i : Nat) {e : TypeId} {sz : Nat} {v v' : Value} {n n' : Nat} {xs xs' : List Value} (hi : L[i]? = some (.row e sz v n xs)) (h : w'.ownsRow 0 e sz v' n' xs') (hg : w.grownBy w' v.ownBlock) (hb : ∀ g, v'.ownBlock = some g → v.ownBlock = some g ∨ w.heap.size ≤ g) :
  C1 φ ψ w0 w' (L.set i (.row e sz v' n' xs')) :=
 M.put hi _ ⟨hg.os, hg.tape, hg.output, hg.size, fun b hb hn => hg.block b hb fun h => hn h.symm⟩ h hb
theorem C1.take (M : C1 φ ψ w0 w L) (k : Nat) : C1 φ ψ w0 w (L.take k) :=
 ⟨M.kept, M.fresh, fun r hr => Res.keep (M.holds r (List.mem_of_mem_take hr)) (Agr.mono fun _ _ hf => ⟨hf.1, fun x hx => hf.2 x (List.mem_of_mem_take hx)⟩) fun _ _ => rfl,
  fun i j a b g hi hj hij => M.dis i j a b g (by rw [List.getElem?_take] at hi; split at hi; exact hi; cases hi) (by rw [List.getElem?_take] at hj; split at hj; exact hj; cases hj) hij, fun r b hr => M.ge r b (List.mem_of_mem_take hr)⟩
theorem C1.sel (M : C1 φ ψ w0 w L) (is : List Nat) (L' : List Res) (h : L'.map some = is.map fun i => L[i]?) (hn : is.Nodup) : C1 φ ψ w0 w L' := by
 have hl : L'.length = is.length := by simpa using congrArg List.length h
 have get : ∀ (j : Nat) (r : Res), L'[j]? = some r → ∃ i, is[j]? = some i ∧ L[i]? = some r := by
  intro j r hj
  have h1 : (L'.map some)[j]? = some (some r) := by simp [hj]
  rw [h, List.getElem?_map] at h1
  cases hi : is[j]? with
  | none => rw [hi] at h1; cases h1
  | some i => rw [hi] at h1; exact ⟨i, rfl, Option.some.inj h1⟩
 have mem : ∀ r, r ∈ L' → r ∈ L := fun r hr => by
  obtain ⟨j, hj⟩ := List.mem_iff_getElem?.1 hr
  obtain ⟨i, _, hi⟩ := get j r hj
  exact ca7 hi
 refine ⟨M.kept, M.fresh, fun r hr => Res.keep (M.holds r (mem r hr)) (Agr.mono fun _ _ hf => ⟨hf.1, fun x hx => hf.2 x (mem x hx)⟩) fun _ _ => rfl, fun j k a b g hj hk hjk ha hb => ?_, fun r b hr => M.ge r b (mem r hr)⟩
 obtain ⟨i1, e1, h1⟩ := get j a hj
 obtain ⟨i2, e2, h2⟩ := get k b hk
 refine M.dis i1 i2 a b g h1 h2 (fun e => hjk ?_) ha hb
 subst e
 have hlt := (b96.1 e1).1
 exact (List.getElem?_inj hlt hn).1 (e1.trans e2.symm)
theorem C1.c (M : C1 φ ψ w0 w L) (i j : Nat) {b : Nat} {cs : List Value} {u : Value} (hi : L[i]? = some (.box b cs)) (hj : cs[j]? = some u) : w.cell? ⟨b, j, none⟩ = some u :=
 (H7.cell (M.holds _ (ca7 hi)) j).trans hj
theorem C1.f (M : C1 φ ψ w0 w L) (i : Nat) {b : Nat} {cs : List Value} (hi : L[i]? = some (.box b cs)) : ∀ j, w.frozen? ⟨b, j, none⟩ = false := H7.free (M.holds _ (ca7 hi))
theorem C1.blk (M : C1 φ ψ w0 w L) (i : Nat) {b : Nat} {cs : List Value} (hi : L[i]? = some (.box b cs)) : H7 w b cs := M.holds _ (ca7 hi)
theorem C1.d (M : C1 φ ψ w0 w L) (i : Nat) {R : World → (Nat → Prop) → Prop} (hi : L[i]? = some (.dat R)) : R w (Fr φ L) := (M.holds _ (ca7 hi)).2
theorem C1.dn (M : C1 φ ψ w0 w L) (i : Nat) {R : World → (Nat → Prop) → Prop} (hi : L[i]? = some (.dat R)) : ah6 R := (M.holds _ (ca7 hi)).1
theorem C1.out (M : C1 φ ψ w0 w L) (i : Nat) {R : World → (Nat → Prop) → Prop} (hi : L[i]? = some (.dat R)) : R w φ := M.dn i hi _ _ _ _ (Agr.mono fun _ _ hf => hf.1) (M.d i hi)
theorem C1.as (M : C1 φ ψ w0 w L) (L' : List Res) (h : L = L') : C1 φ ψ w0 w L' := h ▸ M
end
inductive Rs where
 | box (b : Nat) (cs : List Value)
 | row (e : TypeId) (sz : Nat) (v : Value) (n : Nat) (R : List Value → World → (Nat → Prop) → Prop)
 | dat (R : World → (Nat → Prop) → Prop)
 | own (S : Nat → Prop) (R : World → Prop)
def Rs.none : Rs := .dat fun _ _ => True
def Rs.blk : Rs → Nat → Prop
 | .box b _ => fun g => g = b
 | .row _ _ v _ _ => fun g => v.ownBlock = some g
 | .dat _ => fun _ => False
 | .own S _ => S
def FrF {ι : Type} (φ : Nat → Prop) (L : ι → Rs) (b : Nat) : Prop := φ b ∧ ∀ i, ¬ (L i).blk b
def Rs.holds (w : World) (φ : Nat → Prop) : Rs → Prop
 | .box b cs => H7 w b cs
 | .row e sz v n R => (∀ xs, ah6 (R xs)) ∧ ∃ xs, w.ownsRow 0 e sz v n xs ∧ R xs w φ
 | .dat R => ah6 R ∧ R w φ
 | .own S R => (∀ w w', R w → (∀ b, S b → b < w.heap.size → w'.heap[b]? = w.heap[b]?) → R w') ∧ R w ∧ ∀ b, S b → b < w.heap.size
theorem br8 : ah6 fun _ _ => True := fun _ _ _ _ _ h => h
theorem Rs.none_holds (w : World) (φ : Nat → Prop) : Rs.none.holds w φ := ⟨br8, b91⟩
structure n6 {ι : Type} (φ ψ : Nat → Prop) (w0 w : World) (L : ι → Rs) : Prop where
 kept : D8 ψ w0 w
 fresh : ∀ b, w0.heap.size ≤ b → φ b
 holds : ∀ i, (L i).holds w (FrF φ L)
 dis : ∀ i j g, i ≠ j → (L i).blk g → ¬ (L j).blk g
 ge : ∀ i b, (L i).blk b → w0.heap.size ≤ b ∨ ¬ ψ b
 ph : ∀ i b, (L i).blk b → φ b
section
variable {ι κ : Type} {φ ψ : Nat → Prop} {w0 w w' : World} {L : ι → Rs}
theorem Rs.lt {r : Rs} (h : r.holds w φ) {b : Nat} (hb : r.blk b) : b < w.heap.size := by
 cases r with
 | box b' cs => cases hb; exact H7.lt h
 | row e sz v n R => obtain ⟨_, xs, h1, _⟩ := h; exact (World.ownsRow.lt h1 b hb).2
 | dat R => cases hb
 | own S R => exact h.2.2 b hb
theorem n6.lt (M : n6 φ ψ w0 w L) {i : ι} {b : Nat} (hb : (L i).blk b) : b < w.heap.size := Rs.lt (M.holds i) hb
theorem n6.size (M : n6 φ ψ w0 w L) : w0.heap.size ≤ w.heap.size := M.kept.size
theorem Rs.keep {φ' : Nat → Prop} {r : Rs} (h : r.holds w φ) (ha : Agr φ φ' w w') (hb : ∀ b, r.blk b → w'.heap[b]? = w.heap[b]?) : r.holds w' φ' := by
 cases r with
 | box b cs => obtain ⟨T, h⟩ := h; exact ⟨T, (hb b rfl).trans h⟩
 | row e sz v n R =>
  obtain ⟨hn, xs, h1, h2⟩ := h
  exact ⟨hn, xs, (I8.same (lo := 0) (hi := w.heap.size) ⟨h1, fun g hg => (World.ownsRow.lt h1 g hg).2⟩ hb).1, hn xs _ _ _ _ ha h2⟩
 | dat R => exact ⟨h.1, h.1 _ _ _ _ ha h.2⟩
 | own S R => exact ⟨h.1, h.1 _ _ h.2.1 fun b hs _ => hb b hs, fun b hs => cd2 (h.2.2 b hs) ha.1⟩
theorem n6.call (M : n6 φ ψ w0 w L) (b : Below w.heap.size w w') : n6 φ ψ w0 w' L :=
 ⟨M.kept.trans (D8.of_below b fun _ h _ => h), M.fresh, fun i => Rs.keep (M.holds i) (Agr.below b) fun g hg => b.block g (M.lt hg), M.dis, M.ge, M.ph⟩
theorem n6.drew (M : n6 φ ψ w0 w L) : n6 φ ψ w0 w.drew L := M.call (Below.refl _ _).drew
theorem n6.put (M : n6 φ ψ w0 w L) (i : ι) {L' : ι → Rs} (ho : ∀ j, j ≠ i → L' j = L j) (hk : D8 (fun b => ¬ (L i).blk b) w w') (h : (L' i).holds w' (FrF φ L')) (hg : ∀ g, (L' i).blk g → (L i).blk g ∨ w.heap.size ≤ g) : n6 φ ψ w0 w' L' := by
 have hfr : ∀ b, b < w.heap.size → FrF φ L b → FrF φ L' b := fun b hb hf => ⟨hf.1, fun j hj => by
  by_cases e : j = i
  ·subst e
   rcases hg b hj with h | h
   ·exact hf.2 _ h
   ·omega
  ·rw [ho j e] at hj; exact hf.2 _ hj⟩
 refine ⟨⟨hk.os.trans M.kept.os, hk.tape.trans M.kept.tape, hk.output.trans M.kept.output, cb5 M.size hk.size, fun b hb hp => (hk.block b (cd2 hb M.size) fun he => ?_).trans (M.kept.block b hb hp)⟩, M.fresh, fun j => ?_, fun j k g hjk hj hk' => ?_, fun j b hj => ?_, fun j b hj => ?_⟩
 ·rcases M.ge i b he with h' | h'
  ·omega
  ·exact h' hp
 ·by_cases e : j = i
  ·subst e; exact h
  ·rw [ho j e]
   exact Rs.keep (M.holds j) ⟨hk.size, fun b hb hf => ⟨hfr b hb hf, hk.block b hb (hf.2 i)⟩⟩ fun g hgx => hk.block g (M.lt hgx) fun he => M.dis j i g e hgx he
 ·by_cases e : j = i
  ·subst e
   rw [ho k (fun e => hjk e.symm)] at hk'
   rcases hg g hj with h' | h'
   ·exact M.dis _ _ g hjk h' hk'
   ·have := M.lt hk'; omega
  ·rw [ho j e] at hj
   by_cases e' : k = i
   ·subst e'
    rcases hg g hk' with h' | h'
    ·exact M.dis _ _ g hjk hj h'
    ·have := M.lt hj; omega
   ·rw [ho k e'] at hk'; exact M.dis _ _ g hjk hj hk'
 ·by_cases e : j = i
  ·subst e
   rcases hg b hj with h' | h'
   ·exact M.ge _ b h'
   ·exact .inl (cb5 M.size h')
  ·rw [ho j e] at hj; exact M.ge _ b hj
 ·by_cases e : j = i
  ·subst e
   rcases hg b hj with h' | h'
   ·exact M.ph _ b h'
   ·exact M.fresh b (cb5 M.size h')
  ·rw [ho j e] at hj; exact M.ph _ b hj
theorem n6.map (M : n6 φ ψ w0 w L) {L' : κ → Rs} (g : κ → Option ι) (hi : ∀ k k' i, g k = some i → g k' = some i → k = k') (h : ∀ k, (∃ i, g k = some i ∧ L' k = L i) ∨ L' k = Rs.none) : n6 φ ψ w0 w L' := by
 have hb : ∀ k b, (L' k).blk b → ∃ i, g k = some i ∧ L' k = L i := fun k b hb => by
  rcases h k with h | h
  ·exact h
  ·rw [h] at hb; exact hb.elim
 have hfr : ∀ b, FrF φ L b → FrF φ L' b := fun b hf => ⟨hf.1, fun k hk => by
  obtain ⟨i, _, e⟩ := hb k b hk
  rw [e] at hk; exact hf.2 i hk⟩
 refine ⟨M.kept, M.fresh, fun k => ?_, fun k k' b hkk h1 h2 => ?_, fun k b h1 => ?_, fun k b h1 => ?_⟩
 ·rcases h k with ⟨i, _, e⟩ | e
  ·rw [e]; exact Rs.keep (M.holds i) (Agr.mono fun b _ hf => hfr b hf) fun _ _ => rfl
  ·rw [e]; exact Rs.none_holds _ _
 ·obtain ⟨i, e1, e2⟩ := hb k b h1
  obtain ⟨j, f1, f2⟩ := hb k' b h2
  rw [e2] at h1; rw [f2] at h2
  exact M.dis i j b (fun e => hkk (hi k k' i e1 (e ▸ f1))) h1 h2
 ·obtain ⟨i, _, e2⟩ := hb k b h1
  rw [e2] at h1; exact M.ge i b h1
 ·obtain ⟨i, _, e2⟩ := hb k b h1
  rw [e2] at h1; exact M.ph i b h1
theorem n6.start (hf : ∀ b, w0.heap.size ≤ b → φ b) : n6 φ ψ w0 w0 (fun _ : ι => Rs.none) := ⟨D8.refl _ _, hf, fun _ => Rs.none_holds _ _, fun _ _ _ _ h => h.elim, fun _ _ h => h.elim, fun _ _ h => h.elim⟩
theorem n6.below (M : n6 φ ψ w0 w L) (hp : ∀ b, b < w0.heap.size → ψ b) : Below w0.heap.size w0 w := M.kept.below hp
end
end Go.Proofs.YthikdkjjdeehoaaGreat

namespace Go.Proofs.YthikdkjjdeehoaaGreat
set_option linter.unusedVariables false
set_option linter.unusedSimpArgs false
inductive d7 where
 | mk (kind value : Int) (kids : List d7)
def d7.kind : d7 → Int | ⟨k, _, _⟩ => k
def d7.value : d7 → Int | ⟨_, n, _⟩ => n
def d7.kids : d7 → List d7 | ⟨_, _, ks⟩ => ks
inductive b5 where
 | mk (kind target : Int) (index value : d7) (count : Int) (body els : List b5)
def b5.kind : b5 → Int | ⟨k, _, _, _, _, _, _⟩ => k
def b5.target : b5 → Int | ⟨_, t, _, _, _, _, _⟩ => t
def b5.index : b5 → d7 | ⟨_, _, i, _, _, _, _⟩ => i
def b5.value : b5 → d7 | ⟨_, _, _, v, _, _, _⟩ => v
def b5.count : b5 → Int | ⟨_, _, _, _, c, _, _⟩ => c
def b5.body : b5 → List b5 | ⟨_, _, _, _, _, b, _⟩ => b
def b5.els : b5 → List b5 | ⟨_, _, _, _, _, _, e⟩ => e
structure f7 where
 vars : List Int
 arrays : List Int
 body : List b5
mutual
theorem d7.ind {P : d7 → Prop} (h : ∀ k n ks, (∀ e ∈ ks, P e) → P ⟨k, n, ks⟩) : ∀ e : d7, P e
 | ⟨k, n, ks⟩ => h k n ks (d7.indL h ks)
theorem d7.indL {P : d7 → Prop} (h : ∀ k n ks, (∀ e ∈ ks, P e) → P ⟨k, n, ks⟩) : ∀ ks : List d7, ∀ e ∈ ks, P e
 | [] => fun _ hm => by cases hm
 | a :: r => fun _ hm => (cb7.1 hm).elim (fun he => he ▸ d7.ind h a) fun hm => d7.indL h r _ hm
end
mutual
theorem b5.ind {P : b5 → Prop} (h : ∀ k t i v c b e, (∀ s ∈ b, P s) → (∀ s ∈ e, P s) → P ⟨k, t, i, v, c, b, e⟩) : ∀ s : b5, P s
 | ⟨k, t, i, v, c, b, e⟩ => h k t i v c b e (b5.indL h b) (b5.indL h e)
theorem b5.indL {P : b5 → Prop} (h : ∀ k t i v c b e, (∀ s ∈ b, P s) → (∀ s ∈ e, P s) → P ⟨k, t, i, v, c, b, e⟩) : ∀ ss : List b5, ∀ s ∈ ss, P s
 | [] => fun _ hm => by cases hm
 | a :: r => fun _ hm => (cb7.1 hm).elim (fun he => he ▸ b5.ind h a) fun hm => b5.indL h r _ hm
end
mutual
def F0 : d7 → Nat
 | ⟨_, _, ks⟩ => s8 ks
def s8 : List d7 → Nat
 | [] => 0
 | e :: r => 1 + F0 e + s8 r
end
mutual
def szS : b5 → Nat
 | ⟨_, _, i, v, _, b, e⟩ => F0 i + F0 v + p7 b + p7 e
def p7 : List b5 → Nat
 | [] => 0
 | s :: r => 1 + szS s + p7 r
end
def f7.size (p : f7) : Nat := p.vars.length + p.arrays.length + p7 p.body
theorem P6 (a b : List d7) : s8 (a ++ b) = s8 a + s8 b := by
 induction a with
 | nil => simp [s8]
 | cons x r ih => simp [s8, ih]; omega
theorem aB4 (a b : List b5) : p7 (a ++ b) = p7 a + p7 b := by
 induction a with
 | nil => simp [p7]
 | cons x r ih => simp [p7, ih]; omega
theorem at6 (a : List d7) : a.length ≤ s8 a := by
 induction a with
 | nil => simp
 | cons x r ih => simp only [s8, b84]; omega
theorem Z1 (a : List b5) : a.length ≤ p7 a := by
 induction a with
 | nil => simp
 | cons x r ih => simp only [p7, b84]; omega
theorem bI5 {e : d7} {ks : List d7} (h : e ∈ ks) : F0 e < s8 ks := by
 induction ks with
 | nil => cases h
 | cons x r ih =>
  simp only [s8]
  rcases cb7.1 h with rfl | h
  ·omega
  ·have := ih h; omega
theorem ab1 {s : b5} {ss : List b5} (h : s ∈ ss) : szS s < p7 ss := by
 induction ss with
 | nil => cases h
 | cons x r ih =>
  simp only [p7]
  rcases cb7.1 h with rfl | h
  ·omega
  ·have := ih h; omega
mutual
def E2 : d7 → d7 → Bool
 | ⟨k, n, ks⟩, ⟨k', n', ks'⟩ => decide (k = k') && decide (n = n') && aq5 ks ks'
def aq5 : List d7 → List d7 → Bool
 | [], [] => true
 | e :: r, e' :: r' => E2 e e' && aq5 r r'
 | _, _ => false
end
mutual
def R4 : b5 → b5 → Bool
 | ⟨k, t, i, v, c, b, e⟩, ⟨k', t', i', v', c', b', e'⟩ => decide (k = k') && decide (t = t') && E2 i i' && E2 v v' && decide (c = c') && y8 b b' && y8 e e'
def y8 : List b5 → List b5 → Bool
 | [], [] => true
 | s :: r, s' :: r' => R4 s s' && y8 r r'
 | _, _ => false
end
mutual
theorem K5 : ∀ (a b : d7), E2 a b = true ↔ a = b
 | ⟨k, n, ks⟩, ⟨k', n', ks'⟩ => by
  simp only [E2, b85, decide_eq_true_eq, d7.mk.injEq, aS6 ks ks', and_assoc]
theorem aS6 : ∀ (a b : List d7), aq5 a b = true ↔ a = b
 | [], [] => by simp [aq5]
 | [], _ :: _ => by simp [aq5]
 | _ :: _, [] => by simp [aq5]
 | e :: r, e' :: r' => by simp only [aq5, b85, List.cons.injEq, K5 e e', aS6 r r']
end
mutual
theorem ak1 : ∀ (a b : b5), R4 a b = true ↔ a = b
 | ⟨k, t, i, v, c, b, e⟩, ⟨k', t', i', v', c', b', e'⟩ => by
  simp only [R4, b85, decide_eq_true_eq, b5.mk.injEq, K5 i i', K5 v v', G9 b b', G9 e e', and_assoc]
theorem G9 : ∀ (a b : List b5), y8 a b = true ↔ a = b
 | [], [] => by simp [y8]
 | [], _ :: _ => by simp [y8]
 | _ :: _, [] => by simp [y8]
 | e :: r, e' :: r' => by simp only [y8, b85, List.cons.injEq, ak1 e e', G9 r r']
end
def f7.same (p q : f7) : Bool := decide (p.vars = q.vars) && decide (p.arrays = q.arrays) && y8 p.body q.body
theorem f7.same_eq {p q : f7} : p.same q = true ↔ p = q := by
 cases p; cases q
 simp only [f7.same, b85, decide_eq_true_eq, f7.mk.injEq, G9, and_assoc]
end Go.Proofs.YthikdkjjdeehoaaGreat

namespace Go.Proofs.YthikdkjjdeehoaaGreat
set_option linter.unusedVariables false
set_option linter.unusedSimpArgs false
open Go Go.RowKit
section
mutual
def T7 (w : World) (φ : Nat → Prop) : d7 → List Value → Prop
 | ⟨k, n, ks⟩, cs => ∃ v xs, cs = [.int .i64 k, .int .i64 n, v] ∧ z8 w φ v ks.length 3 xs ∧ A1 w φ ks xs
def A1 (w : World) (φ : Nat → Prop) : List d7 → List Value → Prop
 | [], xs => xs = []
 | e :: r, xs => ∃ c ys, xs = c ++ ys ∧ T7 w φ e c ∧ A1 w φ r ys
end
def t7 (w : World) (φ : Nat → Prop) (v : Value) (ks : List d7) : Prop := ∃ xs, z8 w φ v ks.length 3 xs ∧ A1 w φ ks xs
def ae9 (w : World) (φ : Nat → Prop) (v : Value) (e : d7) : Prop := ∃ kv, v = .agg #[.int .i64 e.kind, .int .i64 e.value, kv] ∧ t7 w φ kv e.kids
mutual
def S8 (w : World) (φ : Nat → Prop) : b5 → List Value → Prop
 | ⟨k, t, i, v, c, b, e⟩, cs => ∃ iv vv bv ev xb xe, cs = [.int .i64 k, .int .i64 t, .int .i64 i.kind, .int .i64 i.value, iv, .int .i64 v.kind, .int .i64 v.value, vv, .int .i64 c, bv, ev] ∧
   t7 w φ iv i.kids ∧ t7 w φ vv v.kids ∧ z8 w φ bv b.length 11 xb ∧ z6 w φ b xb ∧ z8 w φ ev e.length 11 xe ∧ z6 w φ e xe
def z6 (w : World) (φ : Nat → Prop) : List b5 → List Value → Prop
 | [], xs => xs = []
 | s :: r, xs => ∃ c ys, xs = c ++ ys ∧ S8 w φ s c ∧ z6 w φ r ys
end
def C4 (w : World) (φ : Nat → Prop) (v : Value) (ss : List b5) : Prop := ∃ xs, z8 w φ v ss.length 11 xs ∧ z6 w φ ss xs
def am5 (w : World) (φ : Nat → Prop) (v : Value) (s : b5) : Prop :=
 ∃ iv vv bv ev, v = .agg #[.int .i64 s.kind, .int .i64 s.target, .int .i64 s.index.kind, .int .i64 s.index.value, iv, .int .i64 s.value.kind, .int .i64 s.value.value, vv, .int .i64 s.count, bv, ev] ∧
  t7 w φ iv s.index.kids ∧ t7 w φ vv s.value.kids ∧ C4 w φ bv s.body ∧ C4 w φ ev s.els
def bH9 (w : World) (φ : Nat → Prop) (v : Value) (p : f7) : Prop :=
 ∃ v1 v2 v3, v = .agg #[v1, v2, v3] ∧ z8 w φ v1 p.vars.length 1 (ints p.vars) ∧ z8 w φ v2 p.arrays.length 1 (ints p.arrays) ∧ C4 w φ v3 p.body
variable {w w' : World} {φ φ' : Nat → Prop}
mutual
theorem T7.agr (ha : Agr φ φ' w w') : ∀ (e : d7) (cs : List Value), T7 w φ e cs → T7 w' φ' e cs
 | ⟨_, _, ks⟩, _, ⟨v, xs, h1, h2, h3⟩ => ⟨v, xs, h1, z8.nice _ _ _ _ _ _ _ _ ha h2, A1.agr ha ks xs h3⟩
theorem A1.agr (ha : Agr φ φ' w w') : ∀ (ks : List d7) (xs : List Value), A1 w φ ks xs → A1 w' φ' ks xs
 | [], _, h => h
 | e :: r, _, ⟨c, ys, h1, h2, h3⟩ => ⟨c, ys, h1, T7.agr ha e c h2, A1.agr ha r ys h3⟩
end
theorem A1.nice (ks : List d7) (xs : List Value) : ah6 fun w φ => A1 w φ ks xs := fun _ _ _ _ ha h => A1.agr ha ks xs h
theorem t7.nice (v : Value) (ks : List d7) : ah6 fun w φ => t7 w φ v ks := fun _ _ _ _ ha ⟨xs, h1, h2⟩ => ⟨xs, z8.nice _ _ _ _ _ _ _ _ ha h1, A1.agr ha ks xs h2⟩
theorem ae9.nice (v : Value) (e : d7) : ah6 fun w φ => ae9 w φ v e := fun _ _ _ _ ha ⟨kv, h1, h2⟩ => ⟨kv, h1, t7.nice _ _ _ _ _ _ ha h2⟩
mutual
theorem S8.agr (ha : Agr φ φ' w w') : ∀ (s : b5) (cs : List Value), S8 w φ s cs → S8 w' φ' s cs
 | ⟨_, _, _, _, _, b, e⟩, _, ⟨iv, vv, bv, ev, xb, xe, h1, h2, h3, h4, h5, h6, h7⟩ =>
  ⟨iv, vv, bv, ev, xb, xe, h1, t7.nice _ _ _ _ _ _ ha h2, t7.nice _ _ _ _ _ _ ha h3, z8.nice _ _ _ _ _ _ _ _ ha h4, z6.agr ha b xb h5, z8.nice _ _ _ _ _ _ _ _ ha h6, z6.agr ha e xe h7⟩
theorem z6.agr (ha : Agr φ φ' w w') : ∀ (ss : List b5) (xs : List Value), z6 w φ ss xs → z6 w' φ' ss xs
 | [], _, h => h
 | s :: r, _, ⟨c, ys, h1, h2, h3⟩ => ⟨c, ys, h1, S8.agr ha s c h2, z6.agr ha r ys h3⟩
end
theorem z6.nice (ss : List b5) (xs : List Value) : ah6 fun w φ => z6 w φ ss xs := fun _ _ _ _ ha h => z6.agr ha ss xs h
theorem C4.nice (v : Value) (ss : List b5) : ah6 fun w φ => C4 w φ v ss := fun _ _ _ _ ha ⟨xs, h1, h2⟩ => ⟨xs, z8.nice _ _ _ _ _ _ _ _ ha h1, z6.agr ha ss xs h2⟩
theorem am5.nice (v : Value) (s : b5) : ah6 fun w φ => am5 w φ v s := fun _ _ _ _ ha ⟨iv, vv, bv, ev, h1, h2, h3, h4, h5⟩ =>
 ⟨iv, vv, bv, ev, h1, t7.nice _ _ _ _ _ _ ha h2, t7.nice _ _ _ _ _ _ ha h3, C4.nice _ _ _ _ _ _ ha h4, C4.nice _ _ _ _ _ _ ha h5⟩
theorem bH9.nice (v : Value) (p : f7) : ah6 fun w φ => bH9 w φ v p := fun _ _ _ _ ha ⟨v1, v2, v3, h1, h2, h3, h4⟩ =>
 ⟨v1, v2, v3, h1, z8.nice _ _ _ _ _ _ _ _ ha h2, z8.nice _ _ _ _ _ _ _ _ ha h3, C4.nice _ _ _ _ _ _ ha h4⟩
theorem T7.iff (e : d7) (cs : List Value) : T7 w φ e cs ↔ ∃ kv, cs = [.int .i64 e.kind, .int .i64 e.value, kv] ∧ t7 w φ kv e.kids := by
 cases e with
 | mk k n ks => exact ⟨fun ⟨v, xs, h1, h2, h3⟩ => ⟨v, h1, xs, h2, h3⟩, fun ⟨v, h1, xs, h2, h3⟩ => ⟨v, xs, h1, h2, h3⟩⟩
theorem S8.iff (s : b5) (cs : List Value) : S8 w φ s cs ↔ ∃ iv vv bv ev, cs = [.int .i64 s.kind, .int .i64 s.target, .int .i64 s.index.kind, .int .i64 s.index.value, iv, .int .i64 s.value.kind, .int .i64 s.value.value, vv, .int .i64 s.count, bv, ev] ∧
  t7 w φ iv s.index.kids ∧ t7 w φ vv s.value.kids ∧ C4 w φ bv s.body ∧ C4 w φ ev s.els := by
 cases s with
 | mk k t i v c b e =>
  exact ⟨fun ⟨iv, vv, bv, ev, xb, xe, h1, h2, h3, h4, h5, h6, h7⟩ => ⟨iv, vv, bv, ev, h1, h2, h3, ⟨xb, h4, h5⟩, ⟨xe, h6, h7⟩⟩,
   fun ⟨iv, vv, bv, ev, h1, h2, h3, ⟨xb, h4, h5⟩, ⟨xe, h6, h7⟩⟩ => ⟨iv, vv, bv, ev, xb, xe, h1, h2, h3, h4, h5, h6, h7⟩⟩
theorem ae9.iff {v : Value} {e : d7} : ae9 w φ v e ↔ ∃ cs : List Value, v = .agg cs.toArray ∧ T7 w φ e cs :=
 ⟨fun ⟨kv, h1, h2⟩ => ⟨_, h1, (T7.iff e _).2 ⟨kv, rfl, h2⟩⟩, fun ⟨cs, h1, h2⟩ => by obtain ⟨kv, rfl, h3⟩ := (T7.iff e cs).1 h2; exact ⟨kv, h1, h3⟩⟩
theorem am5.iff {v : Value} {s : b5} : am5 w φ v s ↔ ∃ cs : List Value, v = .agg cs.toArray ∧ S8 w φ s cs :=
 ⟨fun ⟨iv, vv, bv, ev, h1, h2⟩ => ⟨_, h1, (S8.iff s _).2 ⟨iv, vv, bv, ev, rfl, h2⟩⟩, fun ⟨cs, h1, h2⟩ => by obtain ⟨iv, vv, bv, ev, rfl, h3⟩ := (S8.iff s cs).1 h2; exact ⟨iv, vv, bv, ev, h1, h3⟩⟩
theorem A1.len : ∀ {ks : List d7} {xs : List Value}, A1 w φ ks xs → xs.length = ks.length * 3
 | [], _, h => by rw [show _ = [] from h]; rfl
 | e :: r, _, ⟨c, ys, h1, h2, h3⟩ => by
  obtain ⟨kv, rfl, _⟩ := (T7.iff e c).1 h2
  rw [h1, b83, A1.len h3, b84]; simp; omega
theorem z6.len : ∀ {ss : List b5} {xs : List Value}, z6 w φ ss xs → xs.length = ss.length * 11
 | [], _, h => by rw [show _ = [] from h]; rfl
 | s :: r, _, ⟨c, ys, h1, h2, h3⟩ => by
  obtain ⟨iv, vv, bv, ev, rfl, _⟩ := (S8.iff s c).1 h2
  rw [h1, b83, z6.len h3, b84]; simp; omega
theorem A1.at : ∀ {ks : List d7} {xs : List Value}, A1 w φ ks xs → ∀ (i : Nat) (hi : i < ks.length), ∃ kv, xs[i * 3]? = some (.int .i64 ks[i].kind) ∧ xs[i * 3 + 1]? = some (.int .i64 ks[i].value) ∧ xs[i * 3 + 2]? = some kv ∧ t7 w φ kv ks[i].kids
 | [], _, _, i, hi => by simp at hi
 | e :: r, _, ⟨c, ys, h1, h2, h3⟩, i, hi => by
  obtain ⟨kv, rfl, hk⟩ := (T7.iff e c).1 h2
  subst h1
  cases i with
  | zero => exact ⟨kv, rfl, rfl, rfl, hk⟩
  | succ i =>
   obtain ⟨kv', a, b, d, f⟩ := A1.at h3 i (by simpa using hi)
   refine ⟨kv', ?_, ?_, ?_, f⟩ <;> (rw [cc1]; simpa [Nat.add_assoc] using by assumption)
theorem z6.at : ∀ {ss : List b5} {xs : List Value}, z6 w φ ss xs → ∀ (i : Nat) (hi : i < ss.length), ∃ cs : List Value, cs.length = 11 ∧ S8 w φ ss[i] cs ∧ ∀ j, j < 11 → xs[i * 11 + j]? = cs[j]?
 | [], _, _, i, hi => by simp at hi
 | s :: r, _, ⟨c, ys, h1, h2, h3⟩, i, hi => by
  have hc : c.length = 11 := by obtain ⟨iv, vv, bv, ev, rfl, _⟩ := (S8.iff s c).1 h2; rfl
  subst h1
  cases i with
  | zero => exact ⟨c, hc, h2, fun j hj => by rw [cb9 (by omega)]; simp⟩
  | succ i =>
   obtain ⟨cs, a, b, d⟩ := z6.at h3 i (by simpa using hi)
   refine ⟨cs, a, b, fun j hj => ?_⟩
   rw [cc9 (by rw [hc, cc1]; omega), ← d j hj]
   congr 1
   rw [hc, cc1]; omega
theorem A1.append : ∀ {ks : List d7} {xs : List Value} {ls : List d7} {ys : List Value}, A1 w φ ks xs → A1 w φ ls ys → A1 w φ (ks ++ ls) (xs ++ ys)
 | [], _, _, _, h, k => by rw [show _ = [] from h]; exact k
 | e :: r, _, _, _, ⟨c, zs, h1, h2, h3⟩, k => ⟨c, zs ++ _, by rw [h1, cc0], h2, A1.append h3 k⟩
theorem A1.one {e : d7} {c : List Value} (h : T7 w φ e c) : A1 w φ [e] c := ⟨c, [], by simp, h, rfl⟩
theorem z6.append : ∀ {ks : List b5} {xs : List Value} {ls : List b5} {ys : List Value}, z6 w φ ks xs → z6 w φ ls ys → z6 w φ (ks ++ ls) (xs ++ ys)
 | [], _, _, _, h, k => by rw [show _ = [] from h]; exact k
 | e :: r, _, _, _, ⟨c, zs, h1, h2, h3⟩, k => ⟨c, zs ++ _, by rw [h1, cc0], h2, z6.append h3 k⟩
theorem z6.one {s : b5} {c : List Value} (h : S8 w φ s c) : z6 w φ [s] c := ⟨c, [], by simp, h, rfl⟩
theorem t7.open {v : Value} {ks : List d7} (h : t7 w φ v ks) : ∃ a cap, v = .slice a ks.length cap ∧ ks.length ≤ cap ∧ ks.length ≤ 9223372036854775807 ∧ cap ≤ 9223372036854775807 ∧
  ∀ i (hi : i < ks.length), ∃ b off kv, a = some ⟨b, off, none⟩ ∧ b < w.heap.size ∧ φ b ∧ w.cell? ⟨b, off + i * 3, none⟩ = some (.int .i64 ks[i].kind) ∧ w.cell? ⟨b, off + i * 3 + 1, none⟩ = some (.int .i64 ks[i].value) ∧ w.cell? ⟨b, off + i * 3 + 2, none⟩ = some kv ∧ t7 w φ kv ks[i].kids := by
 obtain ⟨xs, ⟨hl, a, cap, rfl, h1, h2, h3⟩, hx⟩ := h
 unfold maxLen at h2
 refine ⟨a, cap, rfl, h1, by omega, by omega, fun i hi => ?_⟩
 obtain ⟨b, off, rfl, hb, hf, hc⟩ := h3 (by omega)
 obtain ⟨kv, e0, e1, e2, hk⟩ := hx.at i hi
 exact ⟨b, off, kv, rfl, hb, hf, hc _ _ e0, hc _ _ e1, hc _ _ e2, hk⟩
theorem C4.open {v : Value} {ss : List b5} (h : C4 w φ v ss) : ∃ a cap, v = .slice a ss.length cap ∧ ss.length ≤ cap ∧ ss.length ≤ 9223372036854775807 ∧ cap ≤ 9223372036854775807 ∧
  ∀ i (hi : i < ss.length), ∃ b off iv vv bv ev, a = some ⟨b, off, none⟩ ∧ b < w.heap.size ∧ φ b ∧
   (w.cell? ⟨b, off + i * 11, none⟩ = some (.int .i64 ss[i].kind) ∧ w.cell? ⟨b, off + i * 11 + 1, none⟩ = some (.int .i64 ss[i].target) ∧ w.cell? ⟨b, off + i * 11 + 2, none⟩ = some (.int .i64 ss[i].index.kind) ∧ w.cell? ⟨b, off + i * 11 + 3, none⟩ = some (.int .i64 ss[i].index.value) ∧ w.cell? ⟨b, off + i * 11 + 4, none⟩ = some iv ∧
    w.cell? ⟨b, off + i * 11 + 5, none⟩ = some (.int .i64 ss[i].value.kind) ∧ w.cell? ⟨b, off + i * 11 + 6, none⟩ = some (.int .i64 ss[i].value.value) ∧ w.cell? ⟨b, off + i * 11 + 7, none⟩ = some vv ∧ w.cell? ⟨b, off + i * 11 + 8, none⟩ = some (.int .i64 ss[i].count) ∧ w.cell? ⟨b, off + i * 11 + 9, none⟩ = some bv ∧ w.cell? ⟨b, off + i * 11 + 10, none⟩ = some ev) ∧
   t7 w φ iv ss[i].index.kids ∧ t7 w φ vv ss[i].value.kids ∧ C4 w φ bv ss[i].body ∧ C4 w φ ev ss[i].els := by
 obtain ⟨xs, ⟨hl, a, cap, rfl, h1, h2, h3⟩, hx⟩ := h
 unfold maxLen at h2
 refine ⟨a, cap, rfl, h1, by omega, by omega, fun i hi => ?_⟩
 obtain ⟨b, off, rfl, hb, hf, hc⟩ := h3 (by omega)
 obtain ⟨cs, hl2, hs, hj⟩ := hx.at i hi
 obtain ⟨iv, vv, bv, ev, rfl, k1, k2, k3, k4⟩ := (S8.iff _ _).1 hs
 refine ⟨b, off, iv, vv, bv, ev, rfl, hb, hf, ⟨?_, ?_, ?_, ?_, ?_, ?_, ?_, ?_, ?_, ?_, ?_⟩, k1, k2, k3, k4⟩
 ·have := hc (i * 11 + 0) _ ((hj 0 (by omega)).trans rfl); simpa using this
 ·exact hc (i * 11 + 1) _ ((hj 1 (by omega)).trans rfl)
 ·exact hc (i * 11 + 2) _ ((hj 2 (by omega)).trans rfl)
 ·exact hc (i * 11 + 3) _ ((hj 3 (by omega)).trans rfl)
 ·exact hc (i * 11 + 4) _ ((hj 4 (by omega)).trans rfl)
 ·exact hc (i * 11 + 5) _ ((hj 5 (by omega)).trans rfl)
 ·exact hc (i * 11 + 6) _ ((hj 6 (by omega)).trans rfl)
 ·exact hc (i * 11 + 7) _ ((hj 7 (by omega)).trans rfl)
 ·exact hc (i * 11 + 8) _ ((hj 8 (by omega)).trans rfl)
 ·exact hc (i * 11 + 9) _ ((hj 9 (by omega)).trans rfl)
 ·exact hc (i * 11 + 10) _ ((hj 10 (by omega)).trans rfl)
theorem t7.nil (w : World) (φ : Nat → Prop) : t7 w φ (.slice none 0 0) [] := ⟨[], z8.nil _ _ _, rfl⟩
theorem C4.nil (w : World) (φ : Nat → Prop) : C4 w φ (.slice none 0 0) [] := ⟨[], z8.nil _ _ _, rfl⟩
end
inductive D where
 | ints (l : List Int)
 | bools (l : List Bool)
 | bytes (l : List UInt8)
 | strs (l : List ByteArray)
 | instrs (l : List d9)
 | events (l : List (Int × Int))
 | rows (l : List (List Int))
 | brows (l : List (List Bool))
 | exprs (l : List d7)
 | stmts (l : List b5)
inductive X where
 | v (x : Value)
 | sl (d : D)
def D.len : D → Nat
 | .ints l => l.length
 | .bools l => l.length
 | .bytes l => l.length
 | .strs l => l.length
 | .instrs l => l.length
 | .events l => l.length
 | .rows l => l.length
 | .brows l => l.length
 | .exprs l => l.length
 | .stmts l => l.length
def D.sz : D → Nat
 | .instrs _ => 5
 | .events _ => 2
 | .exprs _ => 3
 | .stmts _ => 11
 | _ => 1
instance : Inhabited d7 := ⟨⟨0, 0, []⟩⟩
instance : Inhabited b5 := ⟨⟨0, 0, b81, b81, 0, [], []⟩⟩
instance : Inhabited d9 := ⟨⟨0, 0, 0, 0, 0⟩⟩
def aN7 (e : d7) : List X := [.v (.int .i64 e.kind), .v (.int .i64 e.value), .sl (.exprs e.kids)]
def aI9 (s : b5) : List X := [.v (.int .i64 s.kind), .v (.int .i64 s.target), .v (.int .i64 s.index.kind), .v (.int .i64 s.index.value), .sl (.exprs s.index.kids), .v (.int .i64 s.value.kind), .v (.int .i64 s.value.value), .sl (.exprs s.value.kids), .v (.int .i64 s.count), .sl (.stmts s.body), .sl (.stmts s.els)]
def bf5 (x : d9) : List X := [.v (.int .i64 x.op), .v (.int .i64 x.a), .v (.int .i64 x.b), .v (.int .i64 x.c), .v (.int .i64 x.d)]
def ar7 (x : Int × Int) : List X := [.v (.int .i64 x.1), .v (.int .i64 x.2)]
def D.elem : D → Nat → List X
 | .ints l, i => [.v (.int .i64 (l.getD i 0))]
 | .bools l, i => [.v (.bool (l.getD i false))]
 | .bytes l, i => [.v (.int .u8 ((l.getD i 0).toNat : Int))]
 | .strs l, i => [.v (.string (l.getD i ByteArray.empty))]
 | .instrs l, i => bf5 (l.getD i b81)
 | .events l, i => ar7 (l.getD i (0, 0))
 | .rows l, i => [.sl (.ints (l.getD i []))]
 | .brows l, i => [.sl (.bools (l.getD i []))]
 | .exprs l, i => aN7 (l.getD i b81)
 | .stmts l, i => aI9 (l.getD i b81)
theorem D.elem_len (d : D) (i : Nat) : (d.elem i).length = d.sz := by cases d <;> rfl
theorem p6 {α : Type} {l : List α} {i : Nat} {d : α} (h : i < l.length) : l.getD i d = l[i] := by simp [h]
def RD (w : World) (φ : Nat → Prop) : D → Value → Prop
 | .ints l, v => z8 w φ v l.length 1 (ints l)
 | .bools l, v => z8 w φ v l.length 1 (l.map Value.bool)
 | .bytes l, v => z8 w φ v l.length 1 (l.map fun b => Value.int .u8 (b.toNat : Int))
 | .strs l, v => z8 w φ v l.length 1 (l.map Value.string)
 | .instrs l, v => z8 w φ v l.length 5 (ints (T2 l))
 | .events l, v => z8 w φ v l.length 2 (l.flatMap fun x => [Value.int .i64 x.1, .int .i64 x.2])
 | .rows l, v => ∃ vs : List Value, z8 w φ v l.length 1 vs ∧ ∀ i (_ : i < l.length), ∃ u, vs[i]? = some u ∧ z8 w φ u l[i].length 1 (ints l[i])
 | .brows l, v => ∃ vs : List Value, z8 w φ v l.length 1 vs ∧ ∀ i (_ : i < l.length), ∃ u, vs[i]? = some u ∧ z8 w φ u l[i].length 1 (l[i].map Value.bool)
 | .exprs l, v => t7 w φ v l
 | .stmts l, v => C4 w φ v l
def XH (w : World) (φ : Nat → Prop) : X → Value → Prop
 | .v x, u => u = x
 | .sl d, u => RD w φ d u
theorem RD.nice (d : D) (v : Value) : ah6 fun w φ => RD w φ d v := by
 intro w w' φ φ' ha h
 cases d with
 | rows l => obtain ⟨vs, h1, h2⟩ := h; exact ⟨vs, z8.nice _ _ _ _ _ _ _ _ ha h1, fun i hi => let ⟨u, a, b⟩ := h2 i hi; ⟨u, a, z8.nice _ _ _ _ _ _ _ _ ha b⟩⟩
 | brows l => obtain ⟨vs, h1, h2⟩ := h; exact ⟨vs, z8.nice _ _ _ _ _ _ _ _ ha h1, fun i hi => let ⟨u, a, b⟩ := h2 i hi; ⟨u, a, z8.nice _ _ _ _ _ _ _ _ ha b⟩⟩
 | exprs l => exact t7.nice v l _ _ _ _ ha h
 | stmts l => exact C4.nice v l _ _ _ _ ha h
 | _ => exact z8.nice _ _ _ _ _ _ _ _ ha h
theorem XH.nice (x : X) (v : Value) : ah6 fun w φ => XH w φ x v := by
 intro w w' φ φ' ha h
 cases x with
 | v x => exact h
 | sl d => exact RD.nice d v _ _ _ _ ha h
def RW (w : World) (φ : Nat → Prop) (d : D) (xs : List Value) : Prop :=
 ∀ i, i < d.len → ∀ j x, (d.elem i)[j]? = some x → ∃ u, xs[i * d.sz + j]? = some u ∧ XH w φ x u
theorem RW.nice (d : D) (xs : List Value) : ah6 fun w φ => RW w φ d xs := fun _ _ _ _ ha h i hi j x hx => let ⟨u, a, b⟩ := h i hi j x hx; ⟨u, a, XH.nice x u _ _ _ _ ha b⟩
theorem aC0 {α : Type} (l : List α) (f : α → Value) (dflt : α) {i j : Nat} {x : X} (hi : i < l.length) (hx : ([X.v (f (l.getD i dflt))] : List X)[j]? = some x) : ∃ y, x = .v y ∧ (l.map f)[i * 1 + j]? = some y := by
 cases j with
 | zero => simp at hx; subst hx; exact ⟨_, rfl, by simp [hi]⟩
 | succ j => simp at hx
theorem bR2 (l : List d9) {i j : Nat} {x : X} (hi : i < l.length) (hx : (bf5 (l.getD i b81))[j]? = some x) : ∃ y, x = .v y ∧ (ints (T2 l))[i * 5 + j]? = some y := by
 obtain ⟨g0, g1, g2, g3, g4⟩ := a58 l i hi
 have e : l.getD i b81 = l[i] := by simp [hi]
 rw [e] at hx
 unfold bf5 at hx
 match j, hx with
 | 0, hx => simp at hx; subst hx; exact ⟨_, rfl, by simp [ints, g0]⟩
 | 1, hx => simp at hx; subst hx; exact ⟨_, rfl, by simp [ints, g1]⟩
 | 2, hx => simp at hx; subst hx; exact ⟨_, rfl, by simp [ints, g2]⟩
 | 3, hx => simp at hx; subst hx; exact ⟨_, rfl, by simp [ints, g3]⟩
 | 4, hx => simp at hx; subst hx; exact ⟨_, rfl, by simp [ints, g4]⟩
 | j + 5, hx => simp at hx
theorem bR3 (l : List (Int × Int)) : ∀ {i j : Nat} {x : X}, i < l.length → (ar7 (l.getD i (0, 0)))[j]? = some x → ∃ y, x = .v y ∧ (l.flatMap fun x => [Value.int .i64 x.1, .int .i64 x.2])[i * 2 + j]? = some y := by
 induction l with
 | nil => intro i j x hi; simp at hi
 | cons a r ih =>
  intro i j x hi hx
  cases i with
  | zero =>
   unfold ar7 at hx
   match j, hx with
   | 0, hx => simp at hx; subst hx; exact ⟨_, rfl, by simp⟩
   | 1, hx => simp at hx; subst hx; exact ⟨_, rfl, by simp⟩
   | j + 2, hx => simp at hx
  | succ i =>
   obtain ⟨y, h1, h2⟩ := ih (i := i) (j := j) (x := x) (by simpa using hi) (by simpa using hx)
   refine ⟨y, h1, ?_⟩
   rw [show (i + 1) * 2 + j = i * 2 + j + 2 by omega]
   simpa using h2
theorem z8.cellAt {w : World} {φ : Nat → Prop} {v : Value} {n sz : Nat} {xs : List Value} (h : z8 w φ v n sz xs) : ∃ a cap, v = .slice a n cap ∧ n ≤ cap ∧ cap ≤ maxLen ∧
  ∀ i, i < n → ∃ b off, a = some ⟨b, off, none⟩ ∧ b < w.heap.size ∧ φ b ∧ ∀ j u, xs[i * sz + j]? = some u → w.cell? ⟨b, off + (i * sz + j), none⟩ = some u := by
 obtain ⟨_, a, cap, rfl, h1, h2, h3⟩ := h
 refine ⟨a, cap, rfl, h1, h2, fun i hi => ?_⟩
 obtain ⟨b, off, rfl, hb, hf, hc⟩ := h3 (by omega)
 exact ⟨b, off, rfl, hb, hf, fun j u hj => hc _ u hj⟩
theorem bE1 {w : World} {φ : Nat → Prop} {e : d7} {c : List Value} (h : T7 w φ e c) {j : Nat} {x : X} (hx : (aN7 e)[j]? = some x) : ∃ u, c[j]? = some u ∧ XH w φ x u := by
 obtain ⟨kv, rfl, hk⟩ := (T7.iff e c).1 h
 unfold aN7 at hx
 match j, hx with
 | 0, hx => simp at hx; subst hx; exact ⟨_, rfl, rfl⟩
 | 1, hx => simp at hx; subst hx; exact ⟨_, rfl, rfl⟩
 | 2, hx => simp at hx; subst hx; exact ⟨_, rfl, hk⟩
 | j + 3, hx => simp at hx
theorem bx6 {w : World} {φ : Nat → Prop} {s : b5} {c : List Value} (h : S8 w φ s c) {j : Nat} {x : X} (hx : (aI9 s)[j]? = some x) : ∃ u, c[j]? = some u ∧ XH w φ x u := by
 obtain ⟨iv, vv, bv, ev, rfl, k1, k2, k3, k4⟩ := (S8.iff s c).1 h
 unfold aI9 at hx
 match j, hx with
 | 0, hx => simp at hx; subst hx; exact ⟨_, rfl, rfl⟩
 | 1, hx => simp at hx; subst hx; exact ⟨_, rfl, rfl⟩
 | 2, hx => simp at hx; subst hx; exact ⟨_, rfl, rfl⟩
 | 3, hx => simp at hx; subst hx; exact ⟨_, rfl, rfl⟩
 | 4, hx => simp at hx; subst hx; exact ⟨_, rfl, k1⟩
 | 5, hx => simp at hx; subst hx; exact ⟨_, rfl, rfl⟩
 | 6, hx => simp at hx; subst hx; exact ⟨_, rfl, rfl⟩
 | 7, hx => simp at hx; subst hx; exact ⟨_, rfl, k2⟩
 | 8, hx => simp at hx; subst hx; exact ⟨_, rfl, rfl⟩
 | 9, hx => simp at hx; subst hx; exact ⟨_, rfl, k3⟩
 | 10, hx => simp at hx; subst hx; exact ⟨_, rfl, k4⟩
 | j + 11, hx => simp at hx
theorem RW.exprs {w : World} {φ : Nat → Prop} {ks : List d7} {xs : List Value} (h : A1 w φ ks xs) : RW w φ (.exprs ks) xs := by
 intro i hi j x hx
 have hj : j < 3 := by
  have := (b96.1 hx).1
  rw [D.elem_len] at this; exact this
 have hi' : i < ks.length := hi
 obtain ⟨kv, e0, e1, e2, hk⟩ := h.at i hi'
 have hx' : (aN7 ks[i])[j]? = some x := by
  rw [← p6 (d := b81) hi']; exact hx
 obtain ⟨u, hu, hh⟩ := bE1 ((T7.iff ks[i] [.int .i64 ks[i].kind, .int .i64 ks[i].value, kv]).2 ⟨kv, rfl, hk⟩) hx'
 refine ⟨u, ?_, hh⟩
 rw [← hu]
 show xs[i * 3 + j]? = _
 match j, hj with
 | 0, _ => simpa using e0
 | 1, _ => simpa using e1
 | 2, _ => simpa using e2
theorem RW.stmts {w : World} {φ : Nat → Prop} {ks : List b5} {xs : List Value} (h : z6 w φ ks xs) : RW w φ (.stmts ks) xs := by
 intro i hi j x hx
 have hj : j < 11 := by
  have := (b96.1 hx).1
  rw [D.elem_len] at this; exact this
 have hi' : i < ks.length := hi
 obtain ⟨cs, hl, hs, hc⟩ := h.at i hi'
 have hx' : (aI9 ks[i])[j]? = some x := by
  rw [← p6 (d := b81) hi']; exact hx
 obtain ⟨u, hu, hh⟩ := bx6 hs hx'
 exact ⟨u, (hc j hj).trans hu, hh⟩
theorem RD.split {w : World} {φ : Nat → Prop} {d : D} {v : Value} (h : RD w φ d v) : ∃ xs, z8 w φ v d.len d.sz xs ∧ RW w φ d xs := by
 cases d with
 | ints l => exact ⟨_, h, fun i hi j x hx => let ⟨y, e, h1⟩ := aC0 l (Value.int .i64) 0 hi hx; ⟨y, h1, by subst e; rfl⟩⟩
 | bools l => exact ⟨_, h, fun i hi j x hx => let ⟨y, e, h1⟩ := aC0 l Value.bool false hi hx; ⟨y, h1, by subst e; rfl⟩⟩
 | bytes l => exact ⟨_, h, fun i hi j x hx => let ⟨y, e, h1⟩ := aC0 l (fun b => Value.int .u8 (b.toNat : Int)) 0 hi hx; ⟨y, h1, by subst e; rfl⟩⟩
 | strs l => exact ⟨_, h, fun i hi j x hx => let ⟨y, e, h1⟩ := aC0 l Value.string ByteArray.empty hi hx; ⟨y, h1, by subst e; rfl⟩⟩
 | instrs l => exact ⟨_, h, fun i hi j x hx => let ⟨y, e, h1⟩ := bR2 l hi hx; ⟨y, h1, by subst e; rfl⟩⟩
 | events l => exact ⟨_, h, fun i hi j x hx => let ⟨y, e, h1⟩ := bR3 l hi hx; ⟨y, h1, by subst e; rfl⟩⟩
 | rows l =>
  obtain ⟨vs, h1, h2⟩ := h
  refine ⟨vs, h1, fun i hi j x hx => ?_⟩
  cases j with
  | succ j => simp [D.elem] at hx
  | zero =>
   obtain ⟨u, e, h3⟩ := h2 i hi
   simp only [D.elem, b95, Option.some.injEq] at hx
   subst hx
   have hi' : i < l.length := hi
   exact ⟨u, by simpa [D.sz] using e, by show z8 _ _ _ _ _ _; rw [p6 hi']; exact h3⟩
 | brows l =>
  obtain ⟨vs, h1, h2⟩ := h
  refine ⟨vs, h1, fun i hi j x hx => ?_⟩
  cases j with
  | succ j => simp [D.elem] at hx
  | zero =>
   obtain ⟨u, e, h3⟩ := h2 i hi
   simp only [D.elem, b95, Option.some.injEq] at hx
   subst hx
   have hi' : i < l.length := hi
   exact ⟨u, by simpa [D.sz] using e, by show z8 _ _ _ _ _ _; rw [p6 hi']; exact h3⟩
 | exprs l => obtain ⟨xs, h1, h2⟩ := h; exact ⟨xs, h1, RW.exprs h2⟩
 | stmts l => obtain ⟨xs, h1, h2⟩ := h; exact ⟨xs, h1, RW.stmts h2⟩
theorem RD.open {w : World} {φ : Nat → Prop} {d : D} {v : Value} (h : RD w φ d v) : ∃ a cap, v = .slice a d.len cap ∧ d.len ≤ cap ∧ cap ≤ maxLen ∧
  ∀ i, i < d.len → ∃ b off, a = some ⟨b, off, none⟩ ∧ b < w.heap.size ∧ φ b ∧ ∀ j x, (d.elem i)[j]? = some x → ∃ u, w.cell? ⟨b, off + (i * d.sz + j), none⟩ = some u ∧ XH w φ x u := by
 obtain ⟨xs, h1, h2⟩ := h.split
 obtain ⟨a, cap, rfl, k1, k2, k3⟩ := h1.cellAt
 refine ⟨a, cap, rfl, k1, k2, fun i hi => ?_⟩
 obtain ⟨b, off, e, hb, hf, hc⟩ := k3 i hi
 exact ⟨b, off, e, hb, hf, fun j x hx => let ⟨u, hu, hh⟩ := h2 i hi j x hx; ⟨u, hc j u hu, hh⟩⟩
theorem bT4 {xs ys : List Value} (hl : xs.length = ys.length) (h : ∀ i, i < ys.length → xs[i]? = ys[i]?) : xs = ys := by
 apply List.ext_getElem?
 intro i
 rcases ca8 i ys.length with hi | hi
 ·exact h i hi
 ·rw [cb3 (by omega), cb3 hi]
theorem RW.drop {w : World} {φ : Nat → Prop} {a : d7} {r : List d7} {xs : List Value} (h : RW w φ (.exprs (a :: r)) xs) : RW w φ (.exprs r) (xs.drop 3) := by
 intro i hi j x hx
 have hi' : i < r.length := hi
 obtain ⟨u, h1, h2⟩ := h (i + 1) (by show i + 1 < (a :: r).length; simp; exact hi') j x (by simpa [D.elem] using hx)
 refine ⟨u, ?_, h2⟩
 rw [List.getElem?_drop, ← h1]
 congr 1
 simp only [D.sz]; omega
theorem RW.dropS {w : World} {φ : Nat → Prop} {a : b5} {r : List b5} {xs : List Value} (h : RW w φ (.stmts (a :: r)) xs) : RW w φ (.stmts r) (xs.drop 11) := by
 intro i hi j x hx
 have hi' : i < r.length := hi
 obtain ⟨u, h1, h2⟩ := h (i + 1) (by show i + 1 < (a :: r).length; simp; exact hi') j x (by simpa [D.elem] using hx)
 refine ⟨u, ?_, h2⟩
 rw [List.getElem?_drop, ← h1]
 congr 1
 simp only [D.sz]; omega
theorem bX7 {xs : List Value} {u0 u1 u2 : Value} (h0 : xs[0]? = some u0) (h1 : xs[1]? = some u1) (h2 : xs[2]? = some u2) : xs = [u0, u1, u2] ++ xs.drop 3 := by
 match xs, h0, h1, h2 with
 | a :: b :: c :: r, h0, h1, h2 => simp at h0 h1 h2; simp [h0, h1, h2]
theorem bS0 {xs : List Value} {u0 u1 u2 u3 u4 u5 u6 u7 u8 u9 u10 : Value} (h0 : xs[0]? = some u0) (h1 : xs[1]? = some u1) (h2 : xs[2]? = some u2) (h3 : xs[3]? = some u3) (h4 : xs[4]? = some u4) (h5 : xs[5]? = some u5) (h6 : xs[6]? = some u6) (h7 : xs[7]? = some u7) (h8 : xs[8]? = some u8) (h9 : xs[9]? = some u9) (h10 : xs[10]? = some u10) : xs = [u0, u1, u2, u3, u4, u5, u6, u7, u8, u9, u10] ++ xs.drop 11 := by
 match xs, h0, h1, h2, h3, h4, h5, h6, h7, h8, h9, h10 with
 | a0 :: a1 :: a2 :: a3 :: a4 :: a5 :: a6 :: a7 :: a8 :: a9 :: a10 :: r, h0, h1, h2, h3, h4, h5, h6, h7, h8, h9, h10 =>
  simp at h0 h1 h2 h3 h4 h5 h6 h7 h8 h9 h10
  simp [h0, h1, h2, h3, h4, h5, h6, h7, h8, h9, h10]
theorem A1.of {w : World} {φ : Nat → Prop} : ∀ {ks : List d7} {xs : List Value}, xs.length = ks.length * 3 → RW w φ (.exprs ks) xs → A1 w φ ks xs
 | [], xs, hl, _ => by simp at hl; exact hl
 | a :: r, xs, hl, h => by
  have hp : 0 < (D.exprs (a :: r)).len := by show 0 < (a :: r).length; simp
  obtain ⟨u0, g0, rfl⟩ := h 0 hp 0 (.v (.int .i64 a.kind)) rfl
  obtain ⟨u1, g1, rfl⟩ := h 0 hp 1 (.v (.int .i64 a.value)) rfl
  obtain ⟨u2, g2, hk⟩ := h 0 hp 2 (.sl (.exprs a.kids)) rfl
  refine ⟨_, xs.drop 3, bX7 (by simpa using g0) (by simpa using g1) (by simpa using g2), (T7.iff a _).2 ⟨u2, rfl, hk⟩, A1.of (by simp at hl ⊢; omega) h.drop⟩
theorem z6.of {w : World} {φ : Nat → Prop} : ∀ {ks : List b5} {xs : List Value}, xs.length = ks.length * 11 → RW w φ (.stmts ks) xs → z6 w φ ks xs
 | [], xs, hl, _ => by simp at hl; exact hl
 | a :: r, xs, hl, h => by
  have hp : 0 < (D.stmts (a :: r)).len := by show 0 < (a :: r).length; simp
  obtain ⟨u0, g0, rfl⟩ := h 0 hp 0 (.v (.int .i64 a.kind)) rfl
  obtain ⟨u1, g1, rfl⟩ := h 0 hp 1 (.v (.int .i64 a.target)) rfl
  obtain ⟨u2, g2, rfl⟩ := h 0 hp 2 (.v (.int .i64 a.index.kind)) rfl
  obtain ⟨u3, g3, rfl⟩ := h 0 hp 3 (.v (.int .i64 a.index.value)) rfl
  obtain ⟨u4, g4, k4⟩ := h 0 hp 4 (.sl (.exprs a.index.kids)) rfl
  obtain ⟨u5, g5, rfl⟩ := h 0 hp 5 (.v (.int .i64 a.value.kind)) rfl
  obtain ⟨u6, g6, rfl⟩ := h 0 hp 6 (.v (.int .i64 a.value.value)) rfl
  obtain ⟨u7, g7, k7⟩ := h 0 hp 7 (.sl (.exprs a.value.kids)) rfl
  obtain ⟨u8, g8, rfl⟩ := h 0 hp 8 (.v (.int .i64 a.count)) rfl
  obtain ⟨u9, g9, k9⟩ := h 0 hp 9 (.sl (.stmts a.body)) rfl
  obtain ⟨u10, g10, k10⟩ := h 0 hp 10 (.sl (.stmts a.els)) rfl
  refine ⟨_, xs.drop 11, bS0 (by simpa using g0) (by simpa using g1) (by simpa using g2) (by simpa using g3) (by simpa using g4) (by simpa using g5) (by simpa using g6) (by simpa using g7) (by simpa using g8) (by simpa using g9) (by simpa using g10), (S8.iff a _).2 ⟨u4, u7, u9, u10, rfl, k4, k7, k9, k10⟩, z6.of (by simp at hl ⊢; omega) h.dropS⟩
theorem ao1 {w : World} {φ : Nat → Prop} {d : D} {xs ys : List Value} (hl : xs.length = d.len * d.sz) (hy : ys.length = d.len * d.sz) (h : RW w φ d xs)
  (hf : ∀ i j x, i < d.len → (d.elem i)[j]? = some x → ∃ y, x = .v y ∧ ys[i * d.sz + j]? = some y) : xs = ys := by
 refine bT4 (hl.trans hy.symm) fun p hp => ?_
 have hs : 0 < d.sz := by cases d <;> simp [D.sz]
 have hi : p / d.sz < d.len := by rw [hy] at hp; exact Nat.div_lt_of_lt_mul (by rw [Nat.mul_comm]; exact hp)
 have hj : p % d.sz < (d.elem (p / d.sz)).length := by rw [D.elem_len]; exact Nat.mod_lt _ hs
 obtain ⟨y, h1, h2⟩ := hf _ _ _ hi (b89 hj)
 obtain ⟨u, h3, h4⟩ := h _ hi _ _ (b89 hj)
 rw [h1] at h4
 have e : p / d.sz * d.sz + p % d.sz = p := by rw [Nat.mul_comm]; exact Nat.div_add_mod p d.sz
 rw [e] at h2 h3
 rw [h3, h2]
 exact congrArg some h4
theorem bg6 (l : List (Int × Int)) : (l.flatMap fun x => [Value.int .i64 x.1, .int .i64 x.2]).length = l.length * 2 := by
 induction l with
 | nil => rfl
 | cons a r ih => rw [List.flatMap_cons, b83, ih]; simp; omega
theorem RD.make {w : World} {φ : Nat → Prop} {d : D} {v : Value} {xs : List Value} (hr : z8 w φ v d.len d.sz xs) (h : RW w φ d xs) : RD w φ d v := by
 have hl := hr.1
 cases d with
 | ints l => rw [ao1 hl (by simp [D.len, D.sz, ints]) h fun i j x hi hx => aC0 l (Value.int .i64) 0 hi hx] at hr; exact hr
 | bools l => rw [ao1 hl (by simp [D.len, D.sz]) h fun i j x hi hx => aC0 l Value.bool false hi hx] at hr; exact hr
 | bytes l => rw [ao1 hl (by simp [D.len, D.sz]) h fun i j x hi hx => aC0 l (fun b => Value.int .u8 (b.toNat : Int)) 0 hi hx] at hr; exact hr
 | strs l => rw [ao1 hl (by simp [D.len, D.sz]) h fun i j x hi hx => aC0 l Value.string ByteArray.empty hi hx] at hr; exact hr
 | instrs l => rw [ao1 hl (by simp [D.len, D.sz, ints, bD2]) h fun i j x hi hx => bR2 l hi hx] at hr; exact hr
 | events l => rw [ao1 hl (bg6 l) h fun i j x hi hx => bR3 l hi hx] at hr; exact hr
 | rows l =>
  refine ⟨xs, hr, fun i hi => ?_⟩
  obtain ⟨u, h1, h2⟩ := h i hi 0 _ rfl
  exact ⟨u, by simpa [D.sz] using h1, by have h3 : z8 _ _ _ _ _ _ := h2; rw [p6 hi] at h3; exact h3⟩
 | brows l =>
  refine ⟨xs, hr, fun i hi => ?_⟩
  obtain ⟨u, h1, h2⟩ := h i hi 0 _ rfl
  exact ⟨u, by simpa [D.sz] using h1, by have h3 : z8 _ _ _ _ _ _ := h2; rw [p6 hi] at h3; exact h3⟩
 | exprs l => exact ⟨xs, hr, A1.of hl h⟩
 | stmts l => exact ⟨xs, hr, z6.of hl h⟩
section
mutual
def E7 (w : World) : d7 → (Nat → Prop) → List Value → Prop
 | ⟨k, n, ks⟩, S, cs => ∃ (v : Value) (xs : List Value) (S' : Nat → Prop), cs = [.int .i64 k, .int .i64 n, v] ∧ w.ownsRow 0 104 3 v ks.length xs ∧ (∀ g, v.ownBlock = some g → S g ∧ ¬ S' g) ∧ (∀ b, S' b → S b) ∧ s6 w ks S' xs
def s6 (w : World) : List d7 → (Nat → Prop) → List Value → Prop
 | [], _, xs => xs = []
 | e :: r, S, xs => ∃ (c ys : List Value) (S1 S2 : Nat → Prop), xs = c ++ ys ∧ (∀ b, S1 b → S b ∧ ¬ S2 b) ∧ (∀ b, S2 b → S b) ∧ E7 w e S1 c ∧ s6 w r S2 ys
end
def I3 (w : World) (v : Value) (ks : List d7) (S : Nat → Prop) : Prop :=
 ∃ (xs : List Value) (S' : Nat → Prop), w.ownsRow 0 104 3 v ks.length xs ∧ (∀ g, v.ownBlock = some g → S g ∧ ¬ S' g) ∧ (∀ b, S' b → S b) ∧ s6 w ks S' xs
mutual
def G0 (w : World) : b5 → (Nat → Prop) → List Value → Prop
 | ⟨k, t, i, v, c, b, e⟩, S, cs => ∃ (iv vv bv ev : Value) (xb xe : List Value) (Si Sv Sb Se Sb' Se' : Nat → Prop), cs = [.int .i64 k, .int .i64 t, .int .i64 i.kind, .int .i64 i.value, iv, .int .i64 v.kind, .int .i64 v.value, vv, .int .i64 c, bv, ev] ∧
   ((∀ b, Si b → S b ∧ ¬ Sv b ∧ ¬ Sb b ∧ ¬ Se b) ∧ (∀ b, Sv b → S b ∧ ¬ Sb b ∧ ¬ Se b) ∧ (∀ b, Sb b → S b ∧ ¬ Se b) ∧ (∀ b, Se b → S b)) ∧ I3 w iv i.kids Si ∧ I3 w vv v.kids Sv ∧
   (w.ownsRow 0 106 11 bv b.length xb ∧ (∀ g, bv.ownBlock = some g → Sb g ∧ ¬ Sb' g) ∧ (∀ b, Sb' b → Sb b) ∧ s4 w b Sb' xb) ∧
   (w.ownsRow 0 106 11 ev e.length xe ∧ (∀ g, ev.ownBlock = some g → Se g ∧ ¬ Se' g) ∧ (∀ b, Se' b → Se b) ∧ s4 w e Se' xe)
def s4 (w : World) : List b5 → (Nat → Prop) → List Value → Prop
 | [], _, xs => xs = []
 | s :: r, S, xs => ∃ (c ys : List Value) (S1 S2 : Nat → Prop), xs = c ++ ys ∧ (∀ b, S1 b → S b ∧ ¬ S2 b) ∧ (∀ b, S2 b → S b) ∧ G0 w s S1 c ∧ s4 w r S2 ys
end
def J7 (w : World) (v : Value) (ss : List b5) (S : Nat → Prop) : Prop :=
 ∃ (xs : List Value) (S' : Nat → Prop), w.ownsRow 0 106 11 v ss.length xs ∧ (∀ g, v.ownBlock = some g → S g ∧ ¬ S' g) ∧ (∀ b, S' b → S b) ∧ s4 w ss S' xs
def aC8 (w : World) (v : Value) (p : f7) (S : Nat → Prop) : Prop :=
 ∃ (v1 v2 v3 : Value) (S3 : Nat → Prop), v = .agg #[v1, v2, v3] ∧ w.ownsRow 0 3 1 v1 p.vars.length (ints p.vars) ∧ w.ownsRow 0 3 1 v2 p.arrays.length (ints p.arrays) ∧ J7 w v3 p.body S3 ∧
  (∀ g, v1.ownBlock = some g → S g ∧ ¬ S3 g ∧ v2.ownBlock ≠ some g) ∧ (∀ g, v2.ownBlock = some g → S g ∧ ¬ S3 g) ∧ (∀ b, S3 b → S b)
variable {w w' : World} {S S' φ : Nat → Prop}
theorem M4 {e : TypeId} {sz : Nat} {v : Value} {n : Nat} {xs : List Value} (h : w.ownsRow 0 e sz v n xs) (hs : ∀ g, v.ownBlock = some g → w'.heap[g]? = w.heap[g]?) : w'.ownsRow 0 e sz v n xs :=
 (I8.same (I8.mk' h) hs).1
mutual
theorem E7.same : ∀ (e : d7) (S : Nat → Prop) (cs : List Value), E7 w e S cs → (∀ b, S b → b < w.heap.size → w'.heap[b]? = w.heap[b]?) → E7 w' e S cs
 | ⟨_, _, ks⟩, S, _, ⟨v, xs, S', h1, h2, h3, h4, h5⟩, hs => ⟨v, xs, S', h1, M4 h2 fun g hg => hs g (h3 g hg).1 (World.ownsRow.lt h2 g hg).2, h3, h4, s6.same ks S' xs h5 fun b hb => hs b (h4 b hb)⟩
theorem s6.same : ∀ (ks : List d7) (S : Nat → Prop) (xs : List Value), s6 w ks S xs → (∀ b, S b → b < w.heap.size → w'.heap[b]? = w.heap[b]?) → s6 w' ks S xs
 | [], _, _, h, _ => h
 | e :: r, S, _, ⟨c, ys, S1, S2, h1, h2, h3, h4, h5⟩, hs => ⟨c, ys, S1, S2, h1, h2, h3, E7.same e S1 c h4 fun b hb => hs b (h2 b hb).1, s6.same r S2 ys h5 fun b hb => hs b (h3 b hb)⟩
end
theorem I3.same {v : Value} {ks : List d7} (h : I3 w v ks S) (hs : ∀ b, S b → b < w.heap.size → w'.heap[b]? = w.heap[b]?) : I3 w' v ks S := by
 obtain ⟨xs, S', h2, h3, h4, h5⟩ := h
 exact ⟨xs, S', M4 h2 fun g hg => hs g (h3 g hg).1 (World.ownsRow.lt h2 g hg).2, h3, h4, s6.same ks S' xs h5 fun b hb => hs b (h4 b hb)⟩
mutual
theorem G0.same : ∀ (s : b5) (S : Nat → Prop) (cs : List Value), G0 w s S cs → (∀ b, S b → b < w.heap.size → w'.heap[b]? = w.heap[b]?) → G0 w' s S cs
 | ⟨_, _, _, _, _, b, e⟩, S, _, ⟨iv, vv, bv, ev, xb, xe, Si, Sv, Sb, Se, Sb', Se', h1, ⟨d1, d2, d3, d4⟩, h2, h3, ⟨b1, b2, b3, b4⟩, ⟨e1, e2, e3, e4⟩⟩, hs =>
  ⟨iv, vv, bv, ev, xb, xe, Si, Sv, Sb, Se, Sb', Se', h1, ⟨d1, d2, d3, d4⟩, h2.same fun b hb => hs b (d1 b hb).1, h3.same fun b hb => hs b (d2 b hb).1,
   ⟨M4 b1 fun g hg => hs g (d3 g (b2 g hg).1).1 (World.ownsRow.lt b1 g hg).2, b2, b3, s4.same b Sb' xb b4 fun x hx => hs x (d3 x (b3 x hx)).1⟩,
   ⟨M4 e1 fun g hg => hs g (d4 g (e2 g hg).1) (World.ownsRow.lt e1 g hg).2, e2, e3, s4.same e Se' xe e4 fun x hx => hs x (d4 x (e3 x hx))⟩⟩
theorem s4.same : ∀ (ss : List b5) (S : Nat → Prop) (xs : List Value), s4 w ss S xs → (∀ b, S b → b < w.heap.size → w'.heap[b]? = w.heap[b]?) → s4 w' ss S xs
 | [], _, _, h, _ => h
 | s :: r, S, _, ⟨c, ys, S1, S2, h1, h2, h3, h4, h5⟩, hs => ⟨c, ys, S1, S2, h1, h2, h3, G0.same s S1 c h4 fun b hb => hs b (h2 b hb).1, s4.same r S2 ys h5 fun b hb => hs b (h3 b hb)⟩
end
theorem J7.same {v : Value} {ss : List b5} (h : J7 w v ss S) (hs : ∀ b, S b → b < w.heap.size → w'.heap[b]? = w.heap[b]?) : J7 w' v ss S := by
 obtain ⟨xs, S', h2, h3, h4, h5⟩ := h
 exact ⟨xs, S', M4 h2 fun g hg => hs g (h3 g hg).1 (World.ownsRow.lt h2 g hg).2, h3, h4, s4.same ss S' xs h5 fun b hb => hs b (h4 b hb)⟩
theorem aC8.same {v : Value} {p : f7} (h : aC8 w v p S) (hs : ∀ b, S b → b < w.heap.size → w'.heap[b]? = w.heap[b]?) : aC8 w' v p S := by
 obtain ⟨v1, v2, v3, S3, rfl, h1, h2, h3, d1, d2, d3⟩ := h
 exact ⟨v1, v2, v3, S3, rfl, M4 h1 fun g hg => hs g (d1 g hg).1 (World.ownsRow.lt h1 g hg).2, M4 h2 fun g hg => hs g (d2 g hg).1 (World.ownsRow.lt h2 g hg).2, h3.same fun b hb => hs b (d3 b hb), d1, d2, d3⟩
theorem I3.mono {v : Value} {ks : List d7} (h : I3 w v ks S) (hs : ∀ b, S b → S' b) : I3 w v ks S' := by
 obtain ⟨xs, T, h2, h3, h4, h5⟩ := h
 exact ⟨xs, T, h2, fun g hg => ⟨hs g (h3 g hg).1, (h3 g hg).2⟩, fun b hb => hs b (h4 b hb), h5⟩
theorem J7.mono {v : Value} {ss : List b5} (h : J7 w v ss S) (hs : ∀ b, S b → S' b) : J7 w v ss S' := by
 obtain ⟨xs, T, h2, h3, h4, h5⟩ := h
 exact ⟨xs, T, h2, fun g hg => ⟨hs g (h3 g hg).1, (h3 g hg).2⟩, fun b hb => hs b (h4 b hb), h5⟩
theorem aC8.mono {v : Value} {p : f7} (h : aC8 w v p S) (hs : ∀ b, S b → S' b) : aC8 w v p S' := by
 obtain ⟨v1, v2, v3, S3, rfl, h1, h2, h3, d1, d2, d3⟩ := h
 exact ⟨v1, v2, v3, S3, rfl, h1, h2, h3, fun g hg => ⟨hs g (d1 g hg).1, (d1 g hg).2⟩, fun g hg => ⟨hs g (d2 g hg).1, (d2 g hg).2⟩, fun b hb => hs b (d3 b hb)⟩
mutual
theorem E7.read : ∀ (e : d7) (S : Nat → Prop) (cs : List Value), E7 w e S cs → (∀ b, S b → φ b) → T7 w φ e cs
 | ⟨_, _, ks⟩, S, _, ⟨v, xs, S', h1, h2, h3, h4, h5⟩, hs => ⟨v, xs, h1, E8 h2 fun g hg => hs g (h3 g hg).1, s6.read ks S' xs h5 fun b hb => hs b (h4 b hb)⟩
theorem s6.read : ∀ (ks : List d7) (S : Nat → Prop) (xs : List Value), s6 w ks S xs → (∀ b, S b → φ b) → A1 w φ ks xs
 | [], _, _, h, _ => h
 | e :: r, S, _, ⟨c, ys, S1, S2, h1, h2, h3, h4, h5⟩, hs => ⟨c, ys, h1, E7.read e S1 c h4 fun b hb => hs b (h2 b hb).1, s6.read r S2 ys h5 fun b hb => hs b (h3 b hb)⟩
end
theorem I3.read {v : Value} {ks : List d7} (h : I3 w v ks S) (hs : ∀ b, S b → φ b) : t7 w φ v ks := by
 obtain ⟨xs, T, h2, h3, h4, h5⟩ := h
 exact ⟨xs, E8 h2 fun g hg => hs g (h3 g hg).1, s6.read ks T xs h5 fun b hb => hs b (h4 b hb)⟩
mutual
theorem G0.read : ∀ (s : b5) (S : Nat → Prop) (cs : List Value), G0 w s S cs → (∀ b, S b → φ b) → S8 w φ s cs
 | ⟨_, _, _, _, _, b, e⟩, S, _, ⟨iv, vv, bv, ev, xb, xe, Si, Sv, Sb, Se, Sb', Se', h1, ⟨d1, d2, d3, d4⟩, h2, h3, ⟨b1, b2, b3, b4⟩, ⟨e1, e2, e3, e4⟩⟩, hs =>
  ⟨iv, vv, bv, ev, xb, xe, h1, h2.read fun b hb => hs b (d1 b hb).1, h3.read fun b hb => hs b (d2 b hb).1,
   E8 b1 fun g hg => hs g (d3 g (b2 g hg).1).1, s4.read b Sb' xb b4 fun x hx => hs x (d3 x (b3 x hx)).1,
   E8 e1 fun g hg => hs g (d4 g (e2 g hg).1), s4.read e Se' xe e4 fun x hx => hs x (d4 x (e3 x hx))⟩
theorem s4.read : ∀ (ss : List b5) (S : Nat → Prop) (xs : List Value), s4 w ss S xs → (∀ b, S b → φ b) → z6 w φ ss xs
 | [], _, _, h, _ => h
 | s :: r, S, _, ⟨c, ys, S1, S2, h1, h2, h3, h4, h5⟩, hs => ⟨c, ys, h1, G0.read s S1 c h4 fun b hb => hs b (h2 b hb).1, s4.read r S2 ys h5 fun b hb => hs b (h3 b hb)⟩
end
theorem J7.read {v : Value} {ss : List b5} (h : J7 w v ss S) (hs : ∀ b, S b → φ b) : C4 w φ v ss := by
 obtain ⟨xs, T, h2, h3, h4, h5⟩ := h
 exact ⟨xs, E8 h2 fun g hg => hs g (h3 g hg).1, s4.read ss T xs h5 fun b hb => hs b (h4 b hb)⟩
theorem aC8.read {v : Value} {p : f7} (h : aC8 w v p S) (hs : ∀ b, S b → φ b) : bH9 w φ v p := by
 obtain ⟨v1, v2, v3, S3, rfl, h1, h2, h3, d1, d2, d3⟩ := h
 exact ⟨v1, v2, v3, rfl, E8 h1 fun g hg => hs g (d1 g hg).1, E8 h2 fun g hg => hs g (d2 g hg).1, h3.read fun b hb => hs b (d3 b hb)⟩
def b32 (R : World → (Nat → Prop) → Prop) (S : Nat → Prop) : World → (Nat → Prop) → Prop := fun w φ => R w S ∧ ∀ b, S b → b < w.heap.size ∧ φ b
theorem b32.nice {R : World → (Nat → Prop) → Prop} (S : Nat → Prop) (hR : ∀ w w' : World, R w S → (∀ b, S b → b < w.heap.size → w'.heap[b]? = w.heap[b]?) → R w' S) : ah6 (b32 R S) :=
 fun w w' _ _ ha ⟨h1, h2⟩ => ⟨hR w w' h1 fun b hb hlt => (ha.2 b hlt (h2 b hb).2).2, fun b hb => ⟨cd2 (h2 b hb).1 ha.1, (ha.2 b (h2 b hb).1 (h2 b hb).2).1⟩⟩
theorem s6.mono : ∀ {ks : List d7} {S S' : Nat → Prop} {xs : List Value}, s6 w ks S xs → (∀ b, S b → S' b) → s6 w ks S' xs
 | [], _, _, _, h, _ => h
 | _ :: _, _, _, _, ⟨c, ys, S1, S2, h1, h2, h3, h4, h5⟩, hs => ⟨c, ys, S1, S2, h1, fun b hb => ⟨hs b (h2 b hb).1, (h2 b hb).2⟩, fun b hb => hs b (h3 b hb), h4, h5⟩
theorem s4.mono : ∀ {ks : List b5} {S S' : Nat → Prop} {xs : List Value}, s4 w ks S xs → (∀ b, S b → S' b) → s4 w ks S' xs
 | [], _, _, _, h, _ => h
 | _ :: _, _, _, _, ⟨c, ys, S1, S2, h1, h2, h3, h4, h5⟩, hs => ⟨c, ys, S1, S2, h1, fun b hb => ⟨hs b (h2 b hb).1, (h2 b hb).2⟩, fun b hb => hs b (h3 b hb), h4, h5⟩
theorem s6.snoc : ∀ {ks : List d7} {S S' T : Nat → Prop} {xs c : List Value} {e : d7}, s6 w ks S xs → E7 w e T c → (∀ b, S b → S' b ∧ ¬ T b) → (∀ b, T b → S' b) → s6 w (ks ++ [e]) S' (xs ++ c)
 | [], S, S', T, xs, c, e, h, k, d, f => by
  rw [show xs = [] from h]
  exact ⟨c, [], T, fun _ => False, by simp, fun b hb => ⟨f b hb, fun h => h⟩, fun b hb => hb.elim, k, rfl⟩
 | a :: r, S, S', T, _, c, e, ⟨x, ys, S1, S2, h1, h2, h3, h4, h5⟩, k, d, f =>
  ⟨x, ys ++ c, S1, fun b => S2 b ∨ T b, by rw [h1, cc0], fun b hb => ⟨(d b (h2 b hb).1).1, fun h => h.elim (h2 b hb).2 (d b (h2 b hb).1).2⟩, fun b hb => hb.elim (fun h => (d b (h3 b h)).1) (f b), h4,
   s6.snoc h5 k (fun b hb => ⟨.inl hb, (d b (h3 b hb)).2⟩) fun b hb => .inr hb⟩
theorem s4.snoc : ∀ {ks : List b5} {S S' T : Nat → Prop} {xs c : List Value} {e : b5}, s4 w ks S xs → G0 w e T c → (∀ b, S b → S' b ∧ ¬ T b) → (∀ b, T b → S' b) → s4 w (ks ++ [e]) S' (xs ++ c)
 | [], S, S', T, xs, c, e, h, k, d, f => by
  rw [show xs = [] from h]
  exact ⟨c, [], T, fun _ => False, by simp, fun b hb => ⟨f b hb, fun h => h⟩, fun b hb => hb.elim, k, rfl⟩
 | a :: r, S, S', T, _, c, e, ⟨x, ys, S1, S2, h1, h2, h3, h4, h5⟩, k, d, f =>
  ⟨x, ys ++ c, S1, fun b => S2 b ∨ T b, by rw [h1, cc0], fun b hb => ⟨(d b (h2 b hb).1).1, fun h => h.elim (h2 b hb).2 (d b (h2 b hb).1).2⟩, fun b hb => hb.elim (fun h => (d b (h3 b h)).1) (f b), h4,
   s4.snoc h5 k (fun b hb => ⟨.inl hb, (d b (h3 b hb)).2⟩) fun b hb => .inr hb⟩
theorem E7.iff (e : d7) (S : Nat → Prop) (cs : List Value) : E7 w e S cs ↔ ∃ kv, cs = [.int .i64 e.kind, .int .i64 e.value, kv] ∧ I3 w kv e.kids S := by
 cases e with
 | mk k n ks => exact ⟨fun ⟨v, xs, T, h1, h2⟩ => ⟨v, h1, xs, T, h2⟩, fun ⟨v, h1, xs, T, h2⟩ => ⟨v, xs, T, h1, h2⟩⟩
theorem G0.iff (s : b5) (S : Nat → Prop) (cs : List Value) : G0 w s S cs ↔ ∃ (iv vv bv ev : Value) (Si Sv Sb Se : Nat → Prop), cs = [.int .i64 s.kind, .int .i64 s.target, .int .i64 s.index.kind, .int .i64 s.index.value, iv, .int .i64 s.value.kind, .int .i64 s.value.value, vv, .int .i64 s.count, bv, ev] ∧
  ((∀ b, Si b → S b ∧ ¬ Sv b ∧ ¬ Sb b ∧ ¬ Se b) ∧ (∀ b, Sv b → S b ∧ ¬ Sb b ∧ ¬ Se b) ∧ (∀ b, Sb b → S b ∧ ¬ Se b) ∧ (∀ b, Se b → S b)) ∧ I3 w iv s.index.kids Si ∧ I3 w vv s.value.kids Sv ∧ J7 w bv s.body Sb ∧ J7 w ev s.els Se := by
 cases s with
 | mk k t i v c b e =>
  exact ⟨fun ⟨iv, vv, bv, ev, xb, xe, Si, Sv, Sb, Se, Sb', Se', h1, h2, h3, h4, h5, h6⟩ => ⟨iv, vv, bv, ev, Si, Sv, Sb, Se, h1, h2, h3, h4, ⟨xb, Sb', h5⟩, ⟨xe, Se', h6⟩⟩,
   fun ⟨iv, vv, bv, ev, Si, Sv, Sb, Se, h1, h2, h3, h4, ⟨xb, Sb', h5⟩, ⟨xe, Se', h6⟩⟩ => ⟨iv, vv, bv, ev, xb, xe, Si, Sv, Sb, Se, Sb', Se', h1, h2, h3, h4, h5, h6⟩⟩
end
def natEq (a b : Nat) : Bool := a == b
def Q8 (w : World) : List (List Int) → (Nat → Prop) → List Value → Prop
 | [], _, xs => xs = []
 | r :: rs, S, xs => ∃ (v : Value) (ys : List Value) (S2 : Nat → Prop), xs = v :: ys ∧ w.ownsRow 0 3 1 v r.length (ints r) ∧ (∀ g, v.ownBlock = some g → S g ∧ ¬ S2 g) ∧ (∀ b, S2 b → S b) ∧ Q8 w rs S2 ys
def S7 (w : World) : D → (Nat → Prop) → List Value → Prop
 | .exprs l, S, xs => s6 w l S xs
 | .stmts l, S, xs => s4 w l S xs
 | .rows l, S, xs => Q8 w l S xs
 | _, _, _ => False
def ap1 : D → Option TypeId
 | .exprs _ => some 104
 | .stmts _ => some 106
 | .rows _ => some 23
 | _ => none
def I2 (w : World) (S : Nat → Prop) (d : D) (v : Value) : Prop :=
 ∃ (e : TypeId) (xs : List Value) (S' : Nat → Prop), ap1 d = some e ∧ w.ownsRow 0 e d.sz v d.len xs ∧ (∀ g, v.ownBlock = some g → S g ∧ ¬ S' g) ∧ (∀ b, S' b → S b) ∧ S7 w d S' xs
section
variable {w w' : World} {S S' T φ : Nat → Prop}
theorem Q8.same : ∀ {l : List (List Int)} {S : Nat → Prop} {xs : List Value}, Q8 w l S xs → (∀ b, S b → b < w.heap.size → w'.heap[b]? = w.heap[b]?) → Q8 w' l S xs
 | [], _, _, h, _ => h
 | _ :: _, _, _, ⟨v, ys, S2, h1, h2, h3, h4, h5⟩, hs => ⟨v, ys, S2, h1, M4 h2 fun g hg => hs g (h3 g hg).1 (World.ownsRow.lt h2 g hg).2, h3, h4, Q8.same h5 fun b hb => hs b (h4 b hb)⟩
theorem Q8.mono : ∀ {l : List (List Int)} {S S' : Nat → Prop} {xs : List Value}, Q8 w l S xs → (∀ b, S b → S' b) → Q8 w l S' xs
 | [], _, _, _, h, _ => h
 | _ :: _, _, _, _, ⟨v, ys, S2, h1, h2, h3, h4, h5⟩, hs => ⟨v, ys, S2, h1, h2, fun g hg => ⟨hs g (h3 g hg).1, (h3 g hg).2⟩, fun b hb => hs b (h4 b hb), h5⟩
theorem Q8.app : ∀ {a b : List (List Int)} {S T S' : Nat → Prop} {xs ys : List Value}, Q8 w a S xs → Q8 w b T ys → (∀ x, S x → S' x ∧ ¬ T x) → (∀ x, T x → S' x) → Q8 w (a ++ b) S' (xs ++ ys)
 | [], b, _, _, _, xs, ys, h, k, _, f => by rw [show xs = [] from h]; exact k.mono f
 | _ :: _, b, _, T, _, _, ys, ⟨v, zs, S2, h1, h2, h3, h4, h5⟩, k, d, f =>
  ⟨v, zs ++ ys, fun x => S2 x ∨ T x, by rw [h1]; rfl, h2, fun g hg => ⟨(d g (h3 g hg).1).1, fun h => h.elim (h3 g hg).2 (d g (h3 g hg).1).2⟩, fun x hx => hx.elim (fun h => (d x (h4 x h)).1) (f x),
   Q8.app h5 k (fun x hx => ⟨.inl hx, (d x (h4 x hx)).2⟩) fun x hx => .inr hx⟩
theorem s6.app : ∀ {a b : List d7} {S T S' : Nat → Prop} {xs ys : List Value}, s6 w a S xs → s6 w b T ys → (∀ x, S x → S' x ∧ ¬ T x) → (∀ x, T x → S' x) → s6 w (a ++ b) S' (xs ++ ys)
 | [], b, _, _, _, xs, ys, h, k, _, f => by rw [show xs = [] from h]; exact k.mono f
 | _ :: _, b, _, T, _, _, ys, ⟨c, zs, S1, S2, h1, h2, h3, h4, h5⟩, k, d, f =>
  ⟨c, zs ++ ys, S1, fun x => S2 x ∨ T x, by rw [h1, cc0], fun x hx => ⟨(d x (h2 x hx).1).1, fun h => h.elim (h2 x hx).2 (d x (h2 x hx).1).2⟩, fun x hx => hx.elim (fun h => (d x (h3 x h)).1) (f x), h4,
   s6.app h5 k (fun x hx => ⟨.inl hx, (d x (h3 x hx)).2⟩) fun x hx => .inr hx⟩
theorem s4.app : ∀ {a b : List b5} {S T S' : Nat → Prop} {xs ys : List Value}, s4 w a S xs → s4 w b T ys → (∀ x, S x → S' x ∧ ¬ T x) → (∀ x, T x → S' x) → s4 w (a ++ b) S' (xs ++ ys)
 | [], b, _, _, _, xs, ys, h, k, _, f => by rw [show xs = [] from h]; exact k.mono f
 | _ :: _, b, _, T, _, _, ys, ⟨c, zs, S1, S2, h1, h2, h3, h4, h5⟩, k, d, f =>
  ⟨c, zs ++ ys, S1, fun x => S2 x ∨ T x, by rw [h1, cc0], fun x hx => ⟨(d x (h2 x hx).1).1, fun h => h.elim (h2 x hx).2 (d x (h2 x hx).1).2⟩, fun x hx => hx.elim (fun h => (d x (h3 x h)).1) (f x), h4,
   s4.app h5 k (fun x hx => ⟨.inl hx, (d x (h3 x hx)).2⟩) fun x hx => .inr hx⟩
theorem S7.same {d : D} {xs : List Value} (h : S7 w d S xs) (hs : ∀ b, S b → b < w.heap.size → w'.heap[b]? = w.heap[b]?) : S7 w' d S xs := by
 cases d <;> simp only [S7] at h ⊢
 ·exact h.same hs
 ·exact s6.same _ _ _ h hs
 ·exact s4.same _ _ _ h hs
theorem S7.mono {d : D} {xs : List Value} (h : S7 w d S xs) (hs : ∀ b, S b → S' b) : S7 w d S' xs := by
 cases d <;> simp only [S7] at h ⊢
 ·exact h.mono hs
 ·exact s6.mono h hs
 ·exact s4.mono h hs
theorem S7.cut {d : D} {xs : List Value} (h : S7 w d S xs) : S7 w d (fun b => S b ∧ b < w.heap.size) xs := by
 cases d <;> simp only [S7] at h ⊢
 ·rename_i l
  have : ∀ {l : List (List Int)} {S : Nat → Prop} {xs : List Value}, Q8 w l S xs → Q8 w l (fun b => S b ∧ b < w.heap.size) xs := by
   intro l
   induction l with
   | nil => intro S xs h; exact h
   | cons r rs ih =>
    rintro S xs ⟨v, ys, S2, h1, h2, h3, h4, h5⟩
    exact ⟨v, ys, fun b => S2 b ∧ b < w.heap.size, h1, h2, fun g hg => ⟨⟨(h3 g hg).1, (World.ownsRow.lt h2 g hg).2⟩, fun h => (h3 g hg).2 h.1⟩, fun b hb => ⟨h4 b hb.1, hb.2⟩, ih h5⟩
  exact this h
 ·exact cutEs _ _ _ h
 ·exact cutSs _ _ _ h
where
 cutE : ∀ (e : d7) (S : Nat → Prop) (cs : List Value), E7 w e S cs → E7 w e (fun b => S b ∧ b < w.heap.size) cs
  | ⟨_, _, ks⟩, S, _, ⟨v, xs, S', h1, h2, h3, h4, h5⟩ => ⟨v, xs, fun b => S' b ∧ b < w.heap.size, h1, h2, fun g hg => ⟨⟨(h3 g hg).1, (World.ownsRow.lt h2 g hg).2⟩, fun h => (h3 g hg).2 h.1⟩, fun b hb => ⟨h4 b hb.1, hb.2⟩, cutEs ks S' xs h5⟩
 cutEs : ∀ (ks : List d7) (S : Nat → Prop) (xs : List Value), s6 w ks S xs → s6 w ks (fun b => S b ∧ b < w.heap.size) xs
  | [], _, _, h => h
  | e :: r, S, _, ⟨c, ys, S1, S2, h1, h2, h3, h4, h5⟩ => ⟨c, ys, fun b => S1 b ∧ b < w.heap.size, fun b => S2 b ∧ b < w.heap.size, h1, fun b hb => ⟨⟨(h2 b hb.1).1, hb.2⟩, fun h => (h2 b hb.1).2 h.1⟩, fun b hb => ⟨h3 b hb.1, hb.2⟩, cutE e S1 c h4, cutEs r S2 ys h5⟩
 cutS : ∀ (s : b5) (S : Nat → Prop) (cs : List Value), G0 w s S cs → G0 w s (fun b => S b ∧ b < w.heap.size) cs
  | ⟨_, _, i, v, _, b, e⟩, S, _, ⟨iv, vv, bv, ev, xb, xe, Si, Sv, Sb, Se, Sb', Se', h1, ⟨d1, d2, d3, d4⟩, ⟨xi, Ti, i1, i2, i3, i4⟩, ⟨xv, Tv, v1, v2, v3, v4⟩, ⟨b1, b2, b3, b4⟩, ⟨e1, e2, e3, e4⟩⟩ =>
   ⟨iv, vv, bv, ev, xb, xe, fun b => Si b ∧ b < w.heap.size, fun b => Sv b ∧ b < w.heap.size, fun b => Sb b ∧ b < w.heap.size, fun b => Se b ∧ b < w.heap.size, fun b => Sb' b ∧ b < w.heap.size, fun b => Se' b ∧ b < w.heap.size, h1,
    ⟨fun b hb => ⟨⟨(d1 b hb.1).1, hb.2⟩, fun h => (d1 b hb.1).2.1 h.1, fun h => (d1 b hb.1).2.2.1 h.1, fun h => (d1 b hb.1).2.2.2 h.1⟩, fun b hb => ⟨⟨(d2 b hb.1).1, hb.2⟩, fun h => (d2 b hb.1).2.1 h.1, fun h => (d2 b hb.1).2.2 h.1⟩, fun b hb => ⟨⟨(d3 b hb.1).1, hb.2⟩, fun h => (d3 b hb.1).2 h.1⟩, fun b hb => ⟨d4 b hb.1, hb.2⟩⟩,
    ⟨xi, fun b => Ti b ∧ b < w.heap.size, i1, fun g hg => ⟨⟨(i2 g hg).1, (World.ownsRow.lt i1 g hg).2⟩, fun h => (i2 g hg).2 h.1⟩, fun b hb => ⟨i3 b hb.1, hb.2⟩, cutEs _ _ _ i4⟩,
    ⟨xv, fun b => Tv b ∧ b < w.heap.size, v1, fun g hg => ⟨⟨(v2 g hg).1, (World.ownsRow.lt v1 g hg).2⟩, fun h => (v2 g hg).2 h.1⟩, fun b hb => ⟨v3 b hb.1, hb.2⟩, cutEs _ _ _ v4⟩,
    ⟨b1, fun g hg => ⟨⟨(b2 g hg).1, (World.ownsRow.lt b1 g hg).2⟩, fun h => (b2 g hg).2 h.1⟩, fun b hb => ⟨b3 b hb.1, hb.2⟩, cutSs _ _ _ b4⟩,
    ⟨e1, fun g hg => ⟨⟨(e2 g hg).1, (World.ownsRow.lt e1 g hg).2⟩, fun h => (e2 g hg).2 h.1⟩, fun b hb => ⟨e3 b hb.1, hb.2⟩, cutSs _ _ _ e4⟩⟩
 cutSs : ∀ (ks : List b5) (S : Nat → Prop) (xs : List Value), s4 w ks S xs → s4 w ks (fun b => S b ∧ b < w.heap.size) xs
  | [], _, _, h => h
  | e :: r, S, _, ⟨c, ys, S1, S2, h1, h2, h3, h4, h5⟩ => ⟨c, ys, fun b => S1 b ∧ b < w.heap.size, fun b => S2 b ∧ b < w.heap.size, h1, fun b hb => ⟨⟨(h2 b hb.1).1, hb.2⟩, fun h => (h2 b hb.1).2 h.1⟩, fun b hb => ⟨h3 b hb.1, hb.2⟩, cutS e S1 c h4, cutSs r S2 ys h5⟩
theorem I2.same {d : D} {v : Value} (h : I2 w S d v) (hs : ∀ b, S b → b < w.heap.size → w'.heap[b]? = w.heap[b]?) : I2 w' S d v := by
 obtain ⟨e, xs, S', h0, h1, h2, h3, h4⟩ := h
 exact ⟨e, xs, S', h0, M4 h1 fun g hg => hs g (h2 g hg).1 (World.ownsRow.lt h1 g hg).2, h2, h3, h4.same fun b hb => hs b (h3 b hb)⟩
theorem I2.mono {d : D} {v : Value} (h : I2 w S d v) (hs : ∀ b, S b → S' b) : I2 w S' d v := by
 obtain ⟨e, xs, T, h0, h1, h2, h3, h4⟩ := h
 exact ⟨e, xs, T, h0, h1, fun g hg => ⟨hs g (h2 g hg).1, (h2 g hg).2⟩, fun b hb => hs b (h3 b hb), h4⟩
theorem I2.cut {d : D} {v : Value} (h : I2 w S d v) : I2 w (fun b => S b ∧ b < w.heap.size) d v := by
 obtain ⟨e, xs, T, h0, h1, h2, h3, h4⟩ := h
 exact ⟨e, xs, fun b => T b ∧ b < w.heap.size, h0, h1, fun g hg => ⟨⟨(h2 g hg).1, (World.ownsRow.lt h1 g hg).2⟩, fun h => (h2 g hg).2 h.1⟩, fun b hb => ⟨h3 b hb.1, hb.2⟩, h4.cut⟩
theorem I2.kids {l : List d7} {v : Value} : I2 w S (.exprs l) v ↔ I3 w v l S :=
 ⟨fun ⟨_, xs, S', h0, h1, h2, h3, h4⟩ => ⟨xs, S', by cases h0; exact h1, h2, h3, h4⟩, fun ⟨xs, S', h1, h2, h3, h4⟩ => ⟨_, xs, S', rfl, h1, h2, h3, h4⟩⟩
theorem I2.block {l : List b5} {v : Value} : I2 w S (.stmts l) v ↔ J7 w v l S :=
 ⟨fun ⟨_, xs, S', h0, h1, h2, h3, h4⟩ => ⟨xs, S', by cases h0; exact h1, h2, h3, h4⟩, fun ⟨xs, S', h1, h2, h3, h4⟩ => ⟨_, xs, S', rfl, h1, h2, h3, h4⟩⟩
theorem Q8.at : ∀ {l : List (List Int)} {S : Nat → Prop} {xs : List Value}, Q8 w l S xs → xs.length = l.length ∧ ∀ i (_ : i < l.length), ∃ u, xs[i]? = some u ∧ w.ownsRow 0 3 1 u l[i].length (ints l[i]) ∧ ∀ g, u.ownBlock = some g → S g
 | [], _, xs, h => ⟨by rw [show xs = [] from h]; rfl, fun i hi => by simp at hi⟩
 | r :: rs, S, _, ⟨v, ys, S2, h1, h2, h3, h4, h5⟩ => by
  subst h1
  obtain ⟨k1, k2⟩ := Q8.at h5
  refine ⟨by simp [k1], fun i hi => ?_⟩
  cases i with
  | zero => exact ⟨v, rfl, h2, fun g hg => (h3 g hg).1⟩
  | succ i =>
   obtain ⟨u, a, b, c⟩ := k2 i (by simpa using hi)
   exact ⟨u, by simpa using a, b, fun g hg => h4 g (c g hg)⟩
theorem I2.read {d : D} {v : Value} (h : I2 w S d v) (hs : ∀ b, S b → φ b) : RD w φ d v := by
 cases d with
 | exprs l => exact I3.read (I2.kids.1 h) hs
 | stmts l => exact J7.read (I2.block.1 h) hs
 | rows l =>
  obtain ⟨e, xs, S', h0, h1, h2, h3, h4⟩ := h
  obtain ⟨k1, k2⟩ := Q8.at h4
  exact ⟨xs, E8 h1 fun g hg => hs g (h2 g hg).1, fun i hi => let ⟨u, a, b, c⟩ := k2 i hi; ⟨u, a, E8 b fun g hg => hs g (h3 g (c g hg))⟩⟩
 | ints l => obtain ⟨_, _, _, h0, _⟩ := h; cases h0
 | bools l => obtain ⟨_, _, _, h0, _⟩ := h; cases h0
 | bytes l => obtain ⟨_, _, _, h0, _⟩ := h; cases h0
 | strs l => obtain ⟨_, _, _, h0, _⟩ := h; cases h0
 | instrs l => obtain ⟨_, _, _, h0, _⟩ := h; cases h0
 | events l => obtain ⟨_, _, _, h0, _⟩ := h; cases h0
 | brows l => obtain ⟨_, _, _, h0, _⟩ := h; cases h0
def N4 : Value → Value
 | .tuple a => a.getD 0 undef
 | v => v
def L6 : Value → Nat → Prop
 | .tuple a => fun b => Value.int .u64 (b : Int) ∈ a.toList.drop 1
 | _ => fun _ => False
theorem aO0 (v : Value) (S : Nat → Prop) (n : Nat) (h : ∀ b, S b → b < n) : ∃ x, N4 x = v ∧ ∀ b, L6 x b ↔ S b := by
 classical
 refine ⟨.tuple (v :: ((ca2 n).filter fun b => decide (S b)).map fun b : Nat => Value.int .u64 (b : Int)).toArray, rfl, fun b => ?_⟩
 simp only [L6, List.drop_succ_cons, List.drop_zero, List.mem_map, List.mem_filter, cc6, decide_eq_true_eq]
 constructor
 ·rintro ⟨a, ⟨_, h1⟩, h2⟩
  simp only [Value.int.injEq, true_and] at h2
  have : a = b := by omega
  subst this; exact h1
 ·intro hb; exact ⟨b, ⟨h b hb, hb⟩, rfl⟩
end
inductive AV where
 | v (x : Value)
 | ptr (id off : Nat)
 | ea (id i j sz : Nat)
 | ref (id : Nat)
 | agg (l : List AV)
 | tup (l : List AV)
 | fn (f : Nat) (l : List AV)
 | bm (f : Nat) (l : List AV)
 | tref (id : Nat)
def X4 : Value → Nat
 | .pointer (some a) => a.block
 | _ => 0
def aO1 (n : Nat) : Value → Addr
 | .slice (some a) _ _ => ⟨a.block, a.off + n, none⟩
 | _ => ⟨0, n, none⟩
mutual
def AV.val (ρ : Nat → Value) : AV → Value
 | .v x => x
 | .ptr id off => .pointer (some ⟨X4 (ρ id), off, none⟩)
 | .ea id i j sz => .pointer (some (aO1 (i * sz + j) (N4 (ρ id))))
 | .ref id => ρ id
 | .agg l => .agg (AV.vals ρ l).toArray
 | .tup l => .tuple (AV.vals ρ l).toArray
 | .fn f l => .func (.func f) #[] (AV.vals ρ l).toArray
 | .bm f l => .func (.func f) (AV.vals ρ l).toArray #[]
 | .tref id => N4 (ρ id)
def AV.vals (ρ : Nat → Value) : List AV → List Value
 | [] => []
 | x :: r => x.val ρ :: AV.vals ρ r
end
mutual
def AV.ids : AV → List Nat
 | .v _ => []
 | .ptr id _ => [id]
 | .ea id _ _ _ => [id]
 | .ref id => [id]
 | .agg l => AV.idsL l
 | .tup l => AV.idsL l
 | .fn _ l => AV.idsL l
 | .bm _ l => AV.idsL l
 | .tref id => [id]
def AV.idsL : List AV → List Nat
 | [] => []
 | x :: r => x.ids ++ AV.idsL r
end
mutual
def AV.ren (σ : Nat → Nat) : AV → AV
 | .v x => .v x
 | .ptr id off => .ptr (σ id) off
 | .ea id i j sz => .ea (σ id) i j sz
 | .ref id => .ref (σ id)
 | .agg l => .agg (AV.renL σ l)
 | .tup l => .tup (AV.renL σ l)
 | .fn f l => .fn f (AV.renL σ l)
 | .bm f l => .bm f (AV.renL σ l)
 | .tref id => .tref (σ id)
def AV.renL (σ : Nat → Nat) : List AV → List AV
 | [] => []
 | x :: r => x.ren σ :: AV.renL σ r
end
mutual
theorem AV.val_congr {ρ ρ' : Nat → Value} : ∀ (x : AV), (∀ id ∈ x.ids, ρ' id = ρ id) → x.val ρ' = x.val ρ
 | .v _, _ => rfl
 | .ptr id _, h => by simp only [AV.val]; rw [h id (by simp [AV.ids])]
 | .ea id _ _ _, h => by simp only [AV.val]; rw [h id (by simp [AV.ids])]
 | .ref id, h => h id (by simp [AV.ids])
 | .agg l, h => by simp only [AV.val]; rw [AV.vals_congr l h]
 | .tup l, h => by simp only [AV.val]; rw [AV.vals_congr l h]
 | .fn _ l, h => by simp only [AV.val]; rw [AV.vals_congr l h]
 | .bm _ l, h => by simp only [AV.val]; rw [AV.vals_congr l h]
 | .tref id, h => by simp only [AV.val]; rw [h id (by simp [AV.ids])]
theorem AV.vals_congr {ρ ρ' : Nat → Value} : ∀ (l : List AV), (∀ id ∈ AV.idsL l, ρ' id = ρ id) → AV.vals ρ' l = AV.vals ρ l
 | [], _ => rfl
 | x :: r, h => by
  simp only [AV.vals]
  rw [AV.val_congr x fun id hi => h id (by simp [AV.idsL, hi]), AV.vals_congr r fun id hi => h id (by simp [AV.idsL, hi])]
end
mutual
theorem AV.val_ren {ρ : Nat → Value} {σ : Nat → Nat} : ∀ (x : AV), (x.ren σ).val ρ = x.val fun i => ρ (σ i)
 | .v _ => rfl
 | .ptr _ _ => rfl
 | .ea _ _ _ _ => rfl
 | .ref _ => rfl
 | .agg l => by simp only [AV.ren, AV.val]; rw [AV.vals_ren l]
 | .tup l => by simp only [AV.ren, AV.val]; rw [AV.vals_ren l]
 | .fn _ l => by simp only [AV.ren, AV.val]; rw [AV.vals_ren l]
 | .bm _ l => by simp only [AV.ren, AV.val]; rw [AV.vals_ren l]
 | .tref _ => rfl
theorem AV.vals_ren {ρ : Nat → Value} {σ : Nat → Nat} : ∀ (l : List AV), AV.vals ρ (AV.renL σ l) = AV.vals (fun i => ρ (σ i)) l
 | [] => rfl
 | x :: r => by simp only [AV.renL, AV.vals]; rw [AV.val_ren x, AV.vals_ren r]
end
theorem AV.vals_length (ρ : Nat → Value) (l : List AV) : (AV.vals ρ l).length = l.length := by
 induction l with
 | nil => rfl
 | cons x r ih => simp [AV.vals, ih]
theorem AV.vals_get (ρ : Nat → Value) : ∀ (l : List AV) (i : Nat), (AV.vals ρ l)[i]? = (l[i]?).map (AV.val ρ)
 | [], i => by simp [AV.vals]
 | x :: r, 0 => by simp [AV.vals]
 | x :: r, i + 1 => by simp [AV.vals, AV.vals_get ρ r i]
theorem AV.vals_append (ρ : Nat → Value) (l m : List AV) : AV.vals ρ (l ++ m) = AV.vals ρ l ++ AV.vals ρ m := by
 induction l with
 | nil => rfl
 | cons x r ih => simp [AV.vals, ih]
theorem AV.vals_take (ρ : Nat → Value) : ∀ (l : List AV) (n : Nat), AV.vals ρ (l.take n) = (AV.vals ρ l).take n
 | [], n => by simp [AV.vals]
 | x :: r, 0 => by simp [AV.vals]
 | x :: r, n + 1 => by simp [AV.vals, AV.vals_take ρ r n]
theorem AV.vals_drop (ρ : Nat → Value) : ∀ (l : List AV) (n : Nat), AV.vals ρ (l.drop n) = (AV.vals ρ l).drop n
 | [], n => by simp [AV.vals]
 | x :: r, 0 => by simp [AV.vals]
 | x :: r, n + 1 => by simp [AV.vals, AV.vals_drop ρ r n]
inductive It where
 | none
 | dead
 | box (cs : List AV)
 | dat (d : D)
 | row (e : TypeId) (d : D)
 | tree (d : D)
 | kept (e : Option TypeId) (d : D)
def It.ids : It → List Nat
 | .box cs => AV.idsL cs
 | _ => []
def It.ren (σ : Nat → Nat) : It → It
 | .box cs => .box (AV.renL σ cs)
 | x => x
def It.res (ρ : Nat → Value) (id : Nat) : It → Rs
 | .none => Rs.none
 | .dead => Rs.none
 | .box cs => .box (X4 (ρ id)) (AV.vals ρ cs)
 | .dat d => .dat fun w φ => RD w φ d (ρ id)
 | .row e d => .row e d.sz (ρ id) d.len fun xs w φ => RW w φ d xs
 | .tree d => .own (L6 (ρ id)) fun w => I2 w (L6 (ρ id)) d (N4 (ρ id))
 | (.kept (Option.some e) d) => .row e d.sz (ρ id) d.len fun xs w φ => RW w φ d xs
 | (.kept Option.none d) => .own (L6 (ρ id)) fun w => I2 w (L6 (ρ id)) d (N4 (ρ id))
def It.unK : It → It
 | (.kept (Option.some e) d) => .row e d
 | (.kept Option.none d) => .tree d
 | x => x
theorem It.res_unK {ρ : Nat → Value} {i : Nat} (x : It) : x.unK.res ρ i = x.res ρ i := by
 cases x with
 | kept e d => cases e <;> rfl
 | _ => rfl
theorem It.ids_unK (x : It) : x.unK.ids = x.ids := by
 cases x with
 | kept e d => cases e <;> rfl
 | _ => rfl
theorem It.unK_ren (σ : Nat → Nat) (x : It) : (x.ren σ).unK = x.unK.ren σ := by
 cases x with
 | kept e d => cases e <;> rfl
 | _ => rfl
theorem It.res_congr {ρ ρ' : Nat → Value} {id : Nat} (x : It) (h : ∀ i ∈ x.ids, ρ' i = ρ i) (hid : x = .none ∨ x = .dead ∨ ρ' id = ρ id) : x.res ρ' id = x.res ρ id := by
 cases x with
 | none => rfl
 | dead => rfl
 | box cs => rcases hid with h0 | h0 | h0 <;> first | cases h0 | (simp only [It.res]; rw [h0, AV.vals_congr cs h])
 | dat d => rcases hid with h0 | h0 | h0 <;> first | cases h0 | (simp only [It.res]; rw [h0])
 | row e d => rcases hid with h0 | h0 | h0 <;> first | cases h0 | (simp only [It.res]; rw [h0])
 | tree d => rcases hid with h0 | h0 | h0 <;> first | cases h0 | (simp only [It.res]; rw [h0])
 | kept e d => cases e <;> (rcases hid with h0 | h0 | h0 <;> first | cases h0 | (simp only [It.res]; rw [h0]))
theorem It.res_ren {ρ : Nat → Value} {σ : Nat → Nat} {i : Nat} (x : It) : (x.ren σ).res ρ (σ i) = x.res (fun i => ρ (σ i)) i := by
 cases x with
 | box cs => simp only [It.ren, It.res]; rw [AV.vals_ren]
 | kept e d => cases e <;> rfl
 | _ => rfl
def x6 (l : List It) : Nat → It := fun i => l.getD i .none
def t4 {ι : Type} (F : ι → Rs) (ρ : Nat → Value) (S : Nat → It) : ι ⊕ Nat → Rs
 | .inl i => F i
 | .inr j => (S j).res ρ j
def s7 (S : Nat → It) : List (Nat × It) → Nat → It
 | [], i => S i
 | (j, x) :: r, i => if i = j then x else s7 S r i
theorem at4 {S : Nat → It} {l : List (Nat × It)} {i : Nat} (h : i ∉ l.map (·.1)) : s7 S l i = S i := by
 induction l with
 | nil => rfl
 | cons p r ih =>
  simp only [cc2, cb7, not_or] at h
  simp only [s7, if_neg h.1]; exact ih h.2
def Inv (S : Nat → It) (ρ : Nat → Value) (mk : List Nat) : Prop := ∀ ρ' : Nat → Value, (∀ id, id ∉ mk → ρ' id = ρ id) → ∀ j, (S j).res ρ' j = (S j).res ρ j
def D7 (mk : List Nat) (ρ ρ' : Nat → Value) : Prop := ∀ id, id ∉ mk → ρ' id = ρ id
theorem D7.refl (mk : List Nat) (ρ : Nat → Value) : D7 mk ρ ρ := fun _ _ => rfl
section
variable {P : Program} {ι : Type} {φ ψ : Nat → Prop} {w0 w w' : World} {F : ι → Rs} {ρ : Nat → Value} {S : Nat → It}
def M8 (P : Program) (o : Oper) (e : Operand → Value) (w : World) (K : Value → World → Prop) : Prop :=
 (∃ v w', (execOp e o).run P w = .ok (.value v) w' ∧ K v w') ∨ (∃ w', (execOp e o).run P w = .ok .skip w' ∧ K undef w') ∨
  ∃ f args w', (execOp e o).run P w = .ok (.enter f args) w' ∧ Calls P f args w' fun x w'' => ∃ v, x = .returned v ∧ K v w''
theorem M8.mono {o : Oper} {e : Operand → Value} {K K' : Value → World → Prop} (h : M8 P o e w K) (hk : ∀ v w', K v w' → K' v w') : M8 P o e w K' := by
 rcases h with ⟨v, w', h1, h2⟩ | ⟨w', h1, h2⟩ | ⟨f, args, w', h1, h2⟩
 ·exact .inl ⟨v, w', h1, hk _ _ h2⟩
 ·exact .inr (.inl ⟨w', h1, hk _ _ h2⟩)
 ·exact .inr (.inr ⟨f, args, w', h1, h2.mono fun x w'' ⟨v, h3, h4⟩ => ⟨v, h3, hk _ _ h4⟩⟩)
theorem M8.wp {ops : Array Oper} {Q : Exit → Act → World → Prop} {rest : List Oper} {o : Oper} {a : Act} (hw : Region.wanted o (yielded ops a.tmps) = true) (h : M8 P o a.eval w fun v w' => wpList P ops Q rest (a.put o.dst v) w') : wpList P ops Q (o :: rest) a w := by
 unfold wpList
 rw [if_pos hw]
 refine .inl ?_
 unfold Oper.wp
 rcases h with ⟨v, w', h1, h2⟩ | ⟨w', h1, h2⟩ | ⟨f, args, w', h1, h2⟩
 ·rw [h1]; exact h2
 ·rw [h1]; exact h2
 ·rw [h1]
  refine Calls.mono h2 fun x w'' ⟨v, h3, h4⟩ => ?_
  subst h3; exact h4
theorem bl1 {ops : Array Oper} {Q : Exit → Act → World → Prop} {rest : List Oper} {o : Oper} {a : Act} (hw : Region.wanted o (yielded ops a.tmps) = false) (h : wpList P ops Q rest (a.put o.dst undef) w) : wpList P ops Q (o :: rest) a w := by
 unfold wpList
 rw [if_neg (by simp [hw])]; exact h
theorem n6.one (M : n6 φ ψ w0 w (t4 F ρ S)) (id : Nat) (x : It) (mk : List Nat) {ρ' : Nat → Value} (hi : Inv S ρ mk) (ha : D7 mk ρ ρ')
  (hk : D8 (fun b => ¬ ((S id).res ρ id).blk b) w w') (hg : ∀ g, (x.res ρ' id).blk g → ((S id).res ρ id).blk g ∨ w.heap.size ≤ g)
  (h : (x.res ρ' id).holds w' (FrF φ (t4 F ρ' (s7 S [(id, x)])))) : n6 φ ψ w0 w' (t4 F ρ' (s7 S [(id, x)])) := by
 have e : t4 F ρ S = t4 F ρ' S := by
  funext k; cases k with
  | inl i => rfl
  | inr j => exact (hi ρ' ha j).symm
 have hx : t4 F ρ' (s7 S [(id, x)]) (.inr id) = x.res ρ' id := by simp [t4, s7]
 refine n6.put M (.inr id) (fun k hk' => ?_) hk (by rw [hx]; exact h) (fun g hg' => hg g (by rw [hx] at hg'; exact hg'))
 rw [e]
 cases k with
 | inl i => rfl
 | inr j =>
  have : j ≠ id := fun e => hk' (by rw [e])
  simp [t4, s7, this]
theorem D8.any {ψ : Nat → Prop} {w w' : World} (b : Below w.heap.size w w') : D8 ψ w w' := D8.of_below b fun _ h _ => h
def xav : List X → Nat → List AV
 | [], _ => []
 | .v x :: r, id => .v x :: xav r id
 | .sl _ :: r, id => .ref id :: xav r (id + 1)
def V7 : List X → Nat → List (Nat × It)
 | [], _ => []
 | .v _ :: r, id => V7 r id
 | .sl d :: r, id => (id, .dat d) :: V7 r (id + 1)
theorem aV2 : ∀ {xs : List X} {id j : Nat}, j ∈ (V7 xs id).map (·.1) → id ≤ j
 | [], _, _, h => by simp [V7] at h
 | .v _ :: r, id, j, h => aV2 (xs := r) h
 | .sl d :: r, id, j, h => by
  simp only [V7, cc2, cb7] at h
  rcases h with rfl | h
  ·exact b94 _
  ·have := aV2 h; omega
def XHs (w : World) (φ : Nat → Prop) : List X → List Value → Prop
 | [], [] => True
 | x :: r, u :: s => XH w φ x u ∧ XHs w φ r s
 | _, _ => False
theorem XHs.agr {φ φ' : Nat → Prop} (ha : Agr φ φ' w w') : ∀ {xs : List X} {us : List Value}, XHs w φ xs us → XHs w' φ' xs us
 | [], [], _ => trivial
 | _ :: _, _ :: _, h => ⟨XH.nice _ _ _ _ _ _ ha h.1, XHs.agr ha h.2⟩
 | [], _ :: _, h => h
 | _ :: _, [], h => h
theorem bw7 (S : Nat → It) (id : Nat) (x : It) (l : List (Nat × It)) (h : id ∉ l.map (·.1)) : s7 (s7 S [(id, x)]) l = s7 S ((id, x) :: l) := by
 funext i
 by_cases e : i = id
 ·subst e; rw [at4 h]; simp [s7]
 ·have : ∀ (l : List (Nat × It)), s7 (s7 S [(id, x)]) l i = s7 S l i := by
   intro l
   induction l with
   | nil => simp [s7, e]
   | cons p r ih => simp only [s7]; split; rfl; exact ih
  rw [this]; simp [s7, e]
theorem n6.dats : ∀ (xs : List X) (us : List Value) (id : Nat) {ρ : Nat → Value} {S : Nat → It}, n6 φ ψ w0 w (t4 F ρ S) → XHs w (FrF φ (t4 F ρ S)) xs us → (∀ j ∈ (V7 xs id).map (·.1), S j = .none) → Inv S ρ ((V7 xs id).map (·.1)) →
  ∃ ρ', D7 ((V7 xs id).map (·.1)) ρ ρ' ∧ n6 φ ψ w0 w (t4 F ρ' (s7 S (V7 xs id))) ∧ us = AV.vals ρ' (xav xs id)
 | [], [], _, ρ, S, M, _, _, _ => ⟨ρ, D7.refl _ _, M, rfl⟩
 | .v x :: r, u :: s, id, ρ, S, M, h, hn, hi => by
  obtain ⟨ρ', h1, h2, h3⟩ := n6.dats r s id M h.2 hn hi
  exact ⟨ρ', h1, h2, by simp only [xav, AV.vals]; rw [← h3, show u = x from h.1]; rfl⟩
 | .sl d :: r, u :: s, id, ρ, S, M, h, hn, hi => by
  have hid : S id = .none := hn id (by simp [V7])
  have hnot : id ∉ (V7 r (id + 1)).map (·.1) := fun h => by have := aV2 h; omega
  have ha : D7 ((V7 (.sl d :: r) id).map (·.1)) ρ (fun j => if j = id then u else ρ j) := fun j hj => by
   have : j ≠ id := fun e => hj (by simp [V7, e])
   simp [this]
  have hsame : ∀ b, FrF φ (t4 F ρ S) b → FrF φ (t4 F (fun j => if j = id then u else ρ j) (s7 S [(id, .dat d)])) b := fun b hb => ⟨hb.1, fun k hk => by
   cases k with
   | inl i => exact hb.2 (.inl i) hk
   | inr j =>
    by_cases e : j = id
    ·subst e; simp only [t4, s7, if_true] at hk; exact hk.elim
    ·simp only [t4, s7, if_neg e] at hk
     rw [hi _ ha j] at hk
     exact hb.2 (.inr j) hk⟩
  have M1 := M.one id (.dat d) _ hi ha (D8.refl _ _) (fun g hg => hg.elim) (by
   refine ⟨RD.nice _ _, ?_⟩
   simp only [if_true]
   exact RD.nice _ _ _ _ _ _ (Agr.mono fun b _ hb => hsame b hb) h.1)
  obtain ⟨ρ', h1, h2, h3⟩ := n6.dats r s (id + 1) M1 (XHs.agr (Agr.mono fun b _ hb => hsame b hb) h.2)
   (fun j hj => by
    have : j ≠ id := fun e => hnot (e ▸ hj)
    simp only [s7, if_neg this]; exact hn j (by simp only [V7, cc2, cb7]; exact .inr hj))
   (fun ρ2 h2 j => by
    have ha2 : D7 ((V7 (.sl d :: r) id).map (·.1)) ρ ρ2 := fun k hk => by
     have hk1 : k ≠ id := fun e => hk (by simp [V7, e])
     rw [h2 k fun hh => hk (by simp only [V7, cc2, cb7]; exact .inr hh)]; simp [hk1]
    by_cases e : j = id
    ·subst e
     simp only [s7, if_true, It.res]
     rw [h2 j hnot]; simp
    ·simp only [s7, if_neg e]
     rw [hi _ ha2 j, hi _ ha j])
  refine ⟨ρ', fun j hj => ?_, by rw [bw7 _ _ _ _ hnot] at h2; exact h2, ?_⟩
  ·rw [h1 j fun hh => hj (by simp only [V7, cc2, cb7]; exact .inr hh)]
   exact ha j hj
  ·simp only [xav, AV.vals]
   rw [← h3]
   simp only [AV.val]
   rw [h1 id hnot]; simp
 | [], _ :: _, _, _, _, _, h, _, _ => h.elim
 | _ :: _, [], _, _, _, _, h, _, _ => by cases h
end
def w9 : List Prop → Prop
 | [] => True
 | p :: r => p ∧ w9 r
theorem w9.append {l m : List Prop} : w9 (l ++ m) ↔ w9 l ∧ w9 m := by
 induction l with
 | nil => simp [w9]
 | cons p r ih => simp [w9, ih, and_assoc]
def a23 (P : Program) (t : TypeId) : Option Bool :=
 match P.underlying t with
 | some (.struct _) => some true
 | some (.array _ _) => some true
 | some _ => some false
 | none => none
def X6 (P : Program) (t : TypeId) : Option Nat := (P.info? t).map (·.size)
def K3 (P : Program) (t : TypeId) : Option Value := (P.info? t).bind (·.zero)
def aI3 (P : Program) (t : TypeId) (f : Nat) : Option (Nat × TypeId) :=
 match P.underlying t with
 | some (.struct fs) => (fs[f]?).map fun f => (f.offset, f.type)
 | _ => none
def Z0 (P : Program) (t : TypeId) : Option TypeId :=
 match P.underlying t with
 | some (.slice e) => some e
 | _ => none
theorem am8 {P : Program} {t : TypeId} {b : Bool} (h : a23 P t = some b) (w : World) : (isAgg t).run P w = .ok b w := by
 unfold a23 at h
 unfold isAgg
 cases hu : P.underlying t with
 | none => rw [hu] at h; cases h
 | some d =>
  rw [Sem.run_bind, run_underlying hu]
  simp only [Result.andThen_ok]
  rw [hu] at h
  cases d <;> (simp at h; subst h; rfl)
theorem F2 {P : Program} {t : TypeId} {n : Nat} (h : X6 P t = some n) (w : World) : (sizeOf t).run P w = .ok n w := by
 unfold X6 at h
 obtain ⟨i, h1, h2⟩ := b92.1 h
 simp [sizeOf, typeInfo, h1, h2]
theorem bq9 {P : Program} {t : TypeId} {v : Value} (h : K3 P t = some v) (w : World) : (zeroValue t).run P w = .ok v w := by
 unfold K3 at h
 cases hi : P.info? t with
 | none => rw [hi] at h; cases h
 | some i =>
  rw [hi] at h
  have h' : i.zero = some v := h
  simp [zeroValue, typeInfo, hi, h']
theorem bg3 {P : Program} {t : TypeId} {f off : Nat} {ft : TypeId} (h : aI3 P t f = some (off, ft)) : ∃ fs x, P.underlying t = some (.struct fs) ∧ fs[f]? = some x ∧ x.offset = off ∧ x.type = ft := by
 unfold aI3 at h
 cases hu : P.underlying t with
 | none => rw [hu] at h; cases h
 | some d =>
  rw [hu] at h
  cases d <;> first | cases h | skip
  rename_i fs
  obtain ⟨x, h1, h2⟩ := b92.1 h
  cases h2
  exact ⟨fs, x, rfl, h1, rfl, rfl⟩
theorem Y1 {P : Program} {t e : TypeId} (h : Z0 P t = some e) : P.underlying t = some (.slice e) := by
 unfold Z0 at h
 cases hu : P.underlying t with
 | none => rw [hu] at h; cases h
 | some d =>
  rw [hu] at h
  cases d <;> first | (cases h; rfl) | cases h
def ev (tm : Nat → Option AV) : Operand → Option AV
 | .tmp t => tm t
 | .const v => some (.v v)
 | .global g => some (.v (.pointer (some ⟨g, 0, none⟩)))
 | .func f => some (.fn f [])
def bv5 (op : BinOp) : Value → Value → Option (Value × List Prop)
 | .int k a, .int k' b =>
  if k = k' then
   match op with
   | .add => some (.int k (a + b), [k.wrap (a + b) = a + b])
   | .sub => some (.int k (a - b), [k.wrap (a - b) = a - b])
   | .mul => some (.int k (a * b), [k.wrap (a * b) = a * b])
   | .quo => some (.int k (a.tdiv b), [b ≠ 0, k.wrap (a.tdiv b) = a.tdiv b])
   | .rem => some (.int k (a.tmod b), [b ≠ 0])
   | .and => some (.int k (k.wrap (BitVec.ofInt k.bits a &&& BitVec.ofInt k.bits b).toNat), [])
   | .or => some (.int k (k.wrap (BitVec.ofInt k.bits a ||| BitVec.ofInt k.bits b).toNat), [])
   | .xor => some (.int k (k.wrap (BitVec.ofInt k.bits a ^^^ BitVec.ofInt k.bits b).toNat), [])
   | .andNot => some (.int k (k.wrap (BitVec.ofInt k.bits a &&& ~~~(BitVec.ofInt k.bits b)).toNat), [])
   | .eql => some (.bool (a == b), [])
   | .neq => some (.bool (a != b), [])
   | .lss => some (.bool (a < b), [])
   | .leq => some (.bool (a ≤ b), [])
   | .gtr => some (.bool (a > b), [])
   | .geq => some (.bool (a ≥ b), [])
   | _ => none
  else none
 | .string a, .string b =>
  match op with
  | .add => some (.string (a ++ b), [((a.size + b.size : Nat) : Int) ≤ 9223372036854775807])
  | .eql => some (.bool (a.toList == b.toList), [])
  | .neq => some (.bool !(a.toList == b.toList), [])
  | _ => none
 | _, _ => none
theorem bz5 {P : Program} {w : World} {op : BinOp} {t : TypeId} {a b r : Value} {obs : List Prop} {x y : Operand} (h : bv5 op a b = some (r, obs)) (ho : w9 obs) :
  ((do eqGuard op t x y a b; Go.binOp op t a b) : Sem Value).run P w = .ok r w := by
 have hg : (eqGuard op t x y a b).run P w = .ok () w := by
  unfold eqGuard
  cases a <;> cases b <;> first | (simp [bv5] at h; done) | (split <;> rfl)
 rw [Sem.run_bind, hg, Result.andThen_ok]
 cases a <;> cases b <;> first | (simp [bv5] at h; done) | skip
 ·rename_i k a k' b
  simp only [bv5] at h
  split at h
  ·rename_i hk
   subst hk
   cases op <;> simp only [reduceCtorEq] at h <;> first
    | (simp only [Option.some.injEq, Prod.mk.injEq] at h; obtain ⟨rfl, rfl⟩ := h; simp only [w9] at ho; simp [Go.binOp, Op.intArith, Op.intBits, Op.intCmp, Op.intDiv, ho]; done)
    | cases h
  ·cases h
 ·rename_i a b
  simp only [bv5] at h
  cases op <;> simp only [reduceCtorEq] at h <;> first
   | (simp only [Option.some.injEq, Prod.mk.injEq] at h; obtain ⟨rfl, rfl⟩ := h; simp only [w9] at ho; simp [Go.binOp, Op.stringOp, IntKind.max, IntKind.bits, IntKind.signed]; try (have := ho.1; omega); done)
   | cases h
def aq4 {α : Type} (ys : List α) (p : Nat) : List α → List α
 | [] => ys
 | u :: r => aq4 (ys.set p u) (p + 1) r
theorem AV.vals_set (ρ : Nat → Value) : ∀ (l : List AV) (i : Nat) (x : AV), AV.vals ρ (l.set i x) = (AV.vals ρ l).set i (x.val ρ)
 | [], i, x => by simp [AV.vals]
 | y :: r, 0, x => by simp [AV.vals]
 | y :: r, i + 1, x => by simp [AV.vals, AV.vals_set ρ r i x]
theorem AV.vals_setL (ρ : Nat → Value) : ∀ (us l : List AV) (p : Nat), AV.vals ρ (aq4 l p us) = setFrom (AV.vals ρ l) p (AV.vals ρ us)
 | [], l, p => by simp [aq4, AV.vals, setFrom]
 | u :: r, l, p => by simp only [aq4, AV.vals, setFrom]; rw [AV.vals_setL ρ r _ _, AV.vals_set]
theorem Z3 : ∀ (us ys : List Value) (p : Nat), p + us.length ≤ ys.length → setFrom ys p us = ys.take p ++ us ++ ys.drop (p + us.length)
 | [], ys, p, h => by simp [setFrom]
 | u :: r, ys, p, h => by
  simp only [b84] at h
  simp only [setFrom]
  rw [Z3 r _ _ (by simp; omega), ap2 _ _ _ (by omega), List.drop_set_of_lt (by omega)]
  simp [Nat.add_assoc, Nat.add_comm 1]
theorem aG2 : ∀ (l : List Value) (k off : Nat) (c : Array Value), (l.zipIdx k).foldl (fun cs (x : Value × Nat) => cs.setIfInBounds (off + x.2) x.1) c = (setFrom c.toList (off + k) l).toArray
 | [], k, off, c => by simp [setFrom]
 | a :: r, k, off, c => by
  simp only [List.zipIdx_cons, List.foldl_cons, setFrom]
  rw [aG2 r (k + 1) off]
  simp [Nat.add_assoc]
def AV.cells : AV → List AV
 | .agg l => l
 | x => [x]
def itD : It → Option D
 | .dat d => some d
 | .row _ d => some d
 | _ => none
def itB : It → Bool
 | .box _ => true
 | _ => false
def itT : It → Option D
 | .tree d => some d
 | _ => none
mutual
def okc (S : Nat → It) : AV → Bool
 | .v x => x.oneCell'
 | .ptr a _ => itB (S a)
 | .ea a _ _ _ => (itD (S a)).isSome
 | .ref a => (itD (S a)).isSome
 | .fn _ l => aK6 S l
 | .bm _ l => Z8 S l
 | .tref a => (itT (S a)).isSome
 | .agg _ => false
 | .tup _ => false
def aK6 (S : Nat → It) : List AV → Bool
 | [] => true
 | x :: r => okc S x && aK6 S r
def Z8 (S : Nat → It) : List AV → Bool
 | [] => true
 | x :: r => (match x with | .agg l => aK6 S l | y => okc S y) && Z8 S r
end
def aD3 (S : Nat → It) (x : AV) : Bool := match x with
 | .agg l => aK6 S l
 | x => okc S x
mutual
theorem J9 {S : Nat → It} {id : Nat} (hS : S id = .none) : ∀ {x : AV}, okc S x = true → id ∉ x.ids
 | .v _, _ => by simp [AV.ids]
 | .ptr a _, h => by
  simp only [AV.ids, ca4]
  intro e; subst e; simp [okc, hS, itB] at h
 | .ea a _ _ _, h => by
  simp only [AV.ids, ca4]
  intro e; subst e; simp [okc, hS, itD] at h
 | .ref a, h => by
  simp only [AV.ids, ca4]
  intro e; subst e; simp [okc, hS, itD] at h
 | .fn _ l, h => au6 hS (by simpa [okc] using h)
 | .bm _ l, h => R6 hS (by simpa [okc] using h)
 | .tref a, h => by
  simp only [AV.ids, ca4]
  intro e; subst e; simp [okc, hS, itT] at h
 | .agg _, h => by simp [okc] at h
 | .tup _, h => by simp [okc] at h
theorem au6 {S : Nat → It} {id : Nat} (hS : S id = .none) : ∀ {l : List AV}, aK6 S l = true → id ∉ AV.idsL l
 | [], _ => by simp [AV.idsL]
 | x :: r, h => by
  simp only [aK6, b85] at h
  simp only [AV.idsL, ca1, not_or]
  exact ⟨J9 hS h.1, au6 hS h.2⟩
theorem R6 {S : Nat → It} {id : Nat} (hS : S id = .none) : ∀ {l : List AV}, Z8 S l = true → id ∉ AV.idsL l
 | [], _ => by simp [AV.idsL]
 | .agg l :: r, h => by
  simp only [Z8, b85] at h
  simp only [AV.idsL, AV.ids, ca1, not_or]
  exact ⟨au6 hS h.1, R6 hS h.2⟩
 | .v x :: r, h => by
  simp only [Z8, b85] at h
  simp only [AV.idsL, ca1, not_or]
  exact ⟨J9 hS h.1, R6 hS h.2⟩
 | .ptr a b :: r, h => by
  simp only [Z8, b85] at h
  simp only [AV.idsL, ca1, not_or]
  exact ⟨J9 hS h.1, R6 hS h.2⟩
 | .ea a b c d :: r, h => by
  simp only [Z8, b85] at h
  simp only [AV.idsL, ca1, not_or]
  exact ⟨J9 hS h.1, R6 hS h.2⟩
 | .ref a :: r, h => by
  simp only [Z8, b85] at h
  simp only [AV.idsL, ca1, not_or]
  exact ⟨J9 hS h.1, R6 hS h.2⟩
 | .tup l :: r, h => by
  simp only [Z8, b85] at h
  simp [okc] at h
 | .fn f l :: r, h => by
  simp only [Z8, b85] at h
  simp only [AV.idsL, ca1, not_or]
  exact ⟨J9 hS h.1, R6 hS h.2⟩
 | .bm f l :: r, h => by
  simp only [Z8, b85] at h
  simp only [AV.idsL, ca1, not_or]
  exact ⟨J9 hS h.1, R6 hS h.2⟩
 | .tref a :: r, h => by
  simp only [Z8, b85] at h
  simp only [AV.idsL, ca1, not_or]
  exact ⟨J9 hS h.1, R6 hS h.2⟩
end
theorem bA9 {S : Nat → It} {id : Nat} (hS : S id = .none) {x : AV} (h : aD3 S x = true) : id ∉ AV.idsL x.cells := by
 cases x with
 | agg l => exact au6 hS h
 | v y => simp [AV.cells, AV.idsL, AV.ids]
 | ptr a b => have := J9 hS (x := .ptr a b) h; simpa [AV.cells, AV.idsL] using this
 | ea a b c d => have := J9 hS (x := .ea a b c d) h; simpa [AV.cells, AV.idsL] using this
 | ref a => have := J9 hS (x := .ref a) h; simpa [AV.cells, AV.idsL] using this
 | fn a b => have := J9 hS (x := .fn a b) h; simpa [AV.cells, AV.idsL] using this
 | bm a b => have := J9 hS (x := .bm a b) h; simpa [AV.cells, AV.idsL] using this
 | tref a => have := J9 hS (x := .tref a) h; simpa [AV.cells, AV.idsL] using this
 | tup l => cases h
section
variable {P : Program} {ι : Type} {φ ψ : Nat → Prop} {w0 w w' : World} {F : ι → Rs} {ρ : Nat → Value} {S : Nat → It}
theorem n6.datAt (M : n6 φ ψ w0 w (t4 F ρ S)) {id : Nat} {d : D} (h : S id = .dat d) : RD w (FrF φ (t4 F ρ S)) d (ρ id) := by
 have := M.holds (.inr id)
 simp only [t4, h, It.res] at this
 exact this.2
theorem n6.rowAt (M : n6 φ ψ w0 w (t4 F ρ S)) {id : Nat} {e : TypeId} {d : D} (h : S id = .row e d) : ∃ xs, w.ownsRow 0 e d.sz (ρ id) d.len xs ∧ RW w (FrF φ (t4 F ρ S)) d xs := by
 have := M.holds (.inr id)
 simp only [t4, h, It.res] at this
 exact this.2
theorem n6.boxAt (M : n6 φ ψ w0 w (t4 F ρ S)) {id : Nat} {cs : List AV} (h : S id = .box cs) : H7 w (X4 (ρ id)) (AV.vals ρ cs) := by
 have := M.holds (.inr id)
 simp only [t4, h, It.res] at this
 exact this
theorem n6.sliceAt (M : n6 φ ψ w0 w (t4 F ρ S)) {id : Nat} {d : D} (h : itD (S id) = some d) : ∃ a cap, ρ id = .slice a d.len cap ∧ d.len ≤ cap ∧ cap ≤ maxLen ∧
  ∀ i, i < d.len → ∃ b off, a = some ⟨b, off, none⟩ ∧ ∀ j x, (d.elem i)[j]? = some x → ∃ u, w.cell? ⟨b, off + (i * d.sz + j), none⟩ = some u ∧ XH w (FrF φ (t4 F ρ S)) x u := by
 cases hS : S id with
 | dat d' =>
  rw [hS] at h; cases h
  obtain ⟨a, cap, h1, h2, h3, h4⟩ := (M.datAt hS).open
  exact ⟨a, cap, h1, h2, h3, fun i hi => let ⟨b, off, e, _, _, hc⟩ := h4 i hi; ⟨b, off, e, hc⟩⟩
 | row e d' =>
  rw [hS] at h; cases h
  obtain ⟨xs, h1, h2⟩ := M.rowAt hS
  obtain ⟨_, a, cap, hv, k1, k2, k3⟩ := ak5 h1
  refine ⟨a, cap, hv, k1, k2, fun i hi => ?_⟩
  obtain ⟨b, off, e, _, hc⟩ := k3 (by omega)
  exact ⟨b, off, e, fun j x hx => let ⟨u, hu, hh⟩ := h2 i hi j x hx; ⟨u, hc _ u hu, hh⟩⟩
 | none => rw [hS] at h; cases h
 | dead => rw [hS] at h; cases h
 | box cs => rw [hS] at h; cases h
 | tree d => rw [hS] at h; cases h
 | kept e d => rw [hS] at h; cases h
theorem n6.treeAt (M : n6 φ ψ w0 w (t4 F ρ S)) {id : Nat} {d : D} (h : itT (S id) = some d) : I2 w (L6 (ρ id)) d (N4 (ρ id)) ∧ ∀ b, L6 (ρ id) b → b < w.heap.size := by
 have hS : S id = .tree d := by
  cases hx : S id <;> rw [hx] at h <;> simp [itT] at h
  rw [h]
 have := M.holds (.inr id)
 simp only [t4, hS, It.res] at this
 exact ⟨this.2.1, this.2.2⟩
theorem aI4 {S : Nat → Prop} {d : D} {v : Value} (h : I2 w S d v) : ∃ a cap, v = .slice a d.len cap := by
 obtain ⟨e, xs, S', h0, h1, h2, h3, h4⟩ := h
 rcases h1.2 with ⟨hv, hn⟩ | ⟨g, cap, cur, hv, _⟩
 ·exact ⟨none, 0, by rw [hv, hn]⟩
 ·exact ⟨_, cap, hv⟩
theorem bm0 (M : n6 φ ψ w0 w (t4 F ρ S)) {x : AV} (h : okc S x = true) : (x.val ρ).oneCell' = true := by
 cases x with
 | v x => exact h
 | ref id =>
  obtain ⟨d, hd⟩ := cd0.1 (show (itD (S id)).isSome = true from h)
  obtain ⟨a, cap, e, _⟩ := M.sliceAt hd
  simp only [AV.val]; rw [e]; rfl
 | tref id =>
  obtain ⟨d, hd⟩ := cd0.1 (show (itT (S id)).isSome = true from h)
  obtain ⟨a, cap, e⟩ := aI4 (M.treeAt hd).1
  simp only [AV.val]; rw [e]; rfl
 | agg l => cases h
 | tup l => cases h
 | _ => rfl
theorem bm1 (M : n6 φ ψ w0 w (t4 F ρ S)) : ∀ {l : List AV}, aK6 S l = true → ∀ u ∈ AV.vals ρ l, u.oneCell' = true
 | [], _, u, hu => by simp [AV.vals] at hu
 | x :: r, h, u, hu => by
  simp only [aK6, b85] at h
  simp only [AV.vals, cb7] at hu
  rcases hu with rfl | hu
  ·exact bm0 M h.1
  ·exact bm1 M h.2 u hu
theorem a03 {u : Value} (h : u.oneCell' = true) : u.cells = #[u] := by
 cases u <;> first | rfl | cases h
theorem Z7 (M : n6 φ ψ w0 w (t4 F ρ S)) {x : AV} (h : okc S x = true) (hx : x.cells = [x]) : (x.val ρ).cells = (AV.vals ρ x.cells).toArray ∧ ∀ u ∈ AV.vals ρ x.cells, u.oneCell' = true := by
 have h1 := bm0 M h
 rw [hx]
 refine ⟨?_, ?_⟩
 ·rw [a03 h1]; rfl
 ·intro u hu
  simp only [AV.vals, ca4] at hu
  subst hu; exact h1
theorem Z6 (M : n6 φ ψ w0 w (t4 F ρ S)) {x : AV} (h : aD3 S x = true) : (x.val ρ).cells = (AV.vals ρ x.cells).toArray ∧ ∀ u ∈ AV.vals ρ x.cells, u.oneCell' = true := by
 cases x with
 | agg l => exact ⟨rfl, bm1 M h⟩
 | v y => exact Z7 M (x := .v y) h rfl
 | ptr a b => exact Z7 M (x := .ptr a b) h rfl
 | ea a b c d => exact Z7 M (x := .ea a b c d) h rfl
 | ref a => exact Z7 M (x := .ref a) h rfl
 | fn a b => exact Z7 M (x := .fn a b) h rfl
 | bm a b => exact Z7 M (x := .bm a b) h rfl
 | tref a => exact Z7 M (x := .tref a) h rfl
 | tup l => cases h
def a75 (P : Program) (t : TypeId) (S : Nat → It) (e : Operand → Option AV) : List AV → List (Nat × Operand) → Option (List AV)
 | cs, [] => some cs
 | cs, (i, x) :: r =>
  match aI3 P t i, e x with
  | some (off, ft), some v => if aD3 S v && decide (X6 P ft = some v.cells.length) && decide (off + v.cells.length ≤ cs.length) then a75 P t S e (aq4 cs off v.cells) r else none
  | _, _ => none
theorem bo0 (M : n6 φ ψ w0 w (t4 F ρ S)) {t : TypeId} {fs : Array Field} (hu : P.underlying t = some (.struct fs)) {e : Operand → Option AV} {g : Operand → Value} {places : Array (Nat × Nat)}
  (hp : ∀ i off ft n, aI3 P t i = some (off, ft) → X6 P ft = some n → places[i]? = some (off, n)) :
  ∀ (parts : List (Nat × Operand)) (cs r : List AV), (∀ p ∈ parts, ∀ v, e p.2 = some v → g p.2 = v.val ρ) → a75 P t S e cs parts = some r → Instr.fill (places[·]?) (AV.vals ρ cs).toArray (parts.map fun p => (p.1, g p.2)) = some (AV.vals ρ r).toArray
 | [], cs, r, _, h => by simp only [a75, Option.some.injEq] at h; subst h; rfl
 | (i, x) :: rest, cs, r, hg, h => by
  simp only [a75] at h
  split at h
  ·rename_i off ft v h1 h2
   split at h
   ·rename_i hc
    simp only [b85, decide_eq_true_eq] at hc
    obtain ⟨⟨k1, k2⟩, k3⟩ := hc
    have hv := hg (i, x) ca6 v h2
    simp only at hv
    obtain ⟨c1, _⟩ := Z6 M k1
    simp only [cc2, Instr.fill]
    rw [hp i off ft _ h1 k2, hv, c1]
    simp only [List.size_toArray, AV.vals_length]
    have : ¬ off + v.cells.length > cs.length := by omega
    simp only [ne_eq, not_true_eq_false, decide_false, Bool.false_or, decide_eq_true_eq, this, if_false]
    have ih := bo0 M hu hp rest (aq4 cs off v.cells) r (fun p hp' => hg p (ca9 _ hp')) h
    rw [AV.vals_setL] at ih
    rw [← ih]
    congr 1
    have hz := aG2 (AV.vals ρ v.cells) 0 off (AV.vals ρ cs).toArray
    simp only [cc8] at hz
    rw [← hz]
    simp [Array.zipIdx, ← Array.foldl_toList, List.mapIdx_eq_zipIdx_map]
   ·cases h
  ·cases h
end
def D.sub : D → Nat → Nat → D
 | .ints x, l, h => .ints ((x.take h).drop l)
 | .bools x, l, h => .bools ((x.take h).drop l)
 | .bytes x, l, h => .bytes ((x.take h).drop l)
 | .strs x, l, h => .strs ((x.take h).drop l)
 | .instrs x, l, h => .instrs ((x.take h).drop l)
 | .events x, l, h => .events ((x.take h).drop l)
 | .rows x, l, h => .rows ((x.take h).drop l)
 | .brows x, l, h => .brows ((x.take h).drop l)
 | .exprs x, l, h => .exprs ((x.take h).drop l)
 | .stmts x, l, h => .stmts ((x.take h).drop l)
def bn1 (P : Program) (t : TypeId) : Bool := match P.underlying t with
 | some .bool => true
 | _ => false
def bW9 (P : Program) (t : TypeId) (op : BinOp) : Value → Value → Option (Value × List Prop)
 | .bool x, .bool y => if bn1 P t then match op with
   | .eql => some (.bool (x == y), [])
   | .neq => some (.bool !(x == y), [])
   | _ => none
  else none
 | a, c => bv5 op a c
theorem bz4 {P : Program} {w : World} {op : BinOp} {t : TypeId} {a b r : Value} {obs : List Prop} {x y : Operand} (h : bW9 P t op a b = some (r, obs)) (ho : w9 obs) :
  ((do eqGuard op t x y a b; Go.binOp op t a b) : Sem Value).run P w = .ok r w := by
 unfold bW9 at h
 split at h
 ·rename_i x1 y1
  have hg : (eqGuard op t x y (.bool x1) (.bool y1)).run P w = .ok () w := by
   unfold eqGuard
   split <;> rfl
  rw [Sem.run_bind, hg, Result.andThen_ok]
  split at h
  ·rename_i hb
   have hu : P.underlying t = some .bool := by
    unfold bn1 at hb
    split at hb
    ·assumption
    ·cases hb
   split at h <;> first | cases h | skip
   ·exact run_eql_bool w t x1 y1 hu
   ·exact run_neq_bool w t x1 y1 hu
  ·cases h
 ·exact bz5 h ho
def ab4 (P : Program) (e : Operand → Option AV) (S : Nat → It) : Op → Option (AV × List Prop)
 | .move x => (e x).map fun r => (r, [])
 | .assign x => (e x).map fun r => (r, [])
 | .binOp b t x y _ => match e x, e y with
  | some (.v a), some (.v c) => (bW9 P t b a c).map fun r => (.v r.1, r.2)
  | _, _ => none
 | .unOp o _ x => match o, e x with
  | .not, some (.v (.bool b)) => some (.v (.bool !b), [])
  | .neg, some (.v (.int k n)) => some (.v (.int k (0 - n)), [k.wrap (0 - n) = 0 - n])
  | _, _ => none
 | .nilCheck x => match e x with
  | some (.ptr a b) => some (.ptr a b, [])
  | some (.ea a b c d) => some (.ea a b c d, [])
  | some (.fn a b) => some (.fn a b, [])
  | some (.bm a b) => some (.bm a b, [])
  | _ => none
 | .fieldAddr s x f => match aI3 P s f, e x with
  | some (off, ft), some (.ptr a b) => if (X6 P ft).any (0 < ·) then some (.ptr a (b + off), []) else none
  | some (off, ft), some (.ea a b c d) => if (X6 P ft).any (0 < ·) then some (.ea a b (c + off) d, []) else none
  | _, _ => none
 | .field s x f => match aI3 P s f, e x with
  | some (off, ft), some (.agg l) =>
   match a23 P ft, X6 P ft with
   | some true, some n => some (.agg ((l.drop off).take n), [])
   | some false, _ => (l[off]?).map fun r => (r, [])
   | _, _ => none
  | _, _ => none
 | .extract x i => match e x with
  | some (.tup l) => (l[i]?).map fun r => (r, [])
  | _ => none
 | .indexAddr t x ix => match e x, e ix with
  | some (.ref id), some (.v (.int _ i)) =>
   match itD (S id), (Z0 P t).bind (X6 P) with
   | some d, some n => if n = d.sz then some (.ea id i.toNat 0 d.sz, [0 ≤ i, i < (d.len : Int)]) else none
   | _, _ => none
  | some (.tref id), some (.v (.int _ i)) =>
   match itT (S id), (Z0 P t).bind (X6 P) with
   | some d, some n => if n = d.sz then some (.ea id i.toNat 0 d.sz, [0 ≤ i, i < (d.len : Int)]) else none
   | _, _ => none
  | _, _ => none
 | .index t x ix => match e x, e ix with
  | some (.v (.string s)), some (.v (.int _ i)) =>
   match P.underlying t with
   | some .string => some (.v (.int .u8 ((s.data.toList.getD i.toNat 0).toNat : Int)), [0 ≤ i, i < (s.size : Int)])
   | _ => none
  | _, _ => none
 | .convert s d x => match e x with
  | some (.v (.int _ n)) =>
   match (P.underlying s).isSome, P.underlying d with
   | true, some (.int k) => some (.v (.int k n), [k.wrap n = n])
   | _, _ => none
  | some (.v (.string x)) =>
   match (P.underlying s).isSome, P.underlying d with
   | true, some .string => some (.v (.string x), [])
   | _, _ => none
  | _ => none
 | .makeFunc (.func f) first cap =>
  if first.isEmpty then (cap.toList.mapM e).map fun l => (.fn f l, []) else if cap.isEmpty then (first.toList.mapM e).map fun l => (.bm f l, []) else none
 | .build t parts =>
  match K3 P t, P.underlying t with
  | some z, some (.struct fs) =>
   match fs.toList.mapM (fun f => (P.info? f.type).map fun i => (f.offset, i.size)) with
   | some _ => (a75 P t S e (z.cells.toList.map .v) parts.toList).map fun l => (.agg l, [])
   | none => none
  | _, _ => none
 | .call { callee := .builtin .len, args, argTypes } =>
  match args.toList, argTypes.toList with
  | [x], [t] => match e x, P.underlying t with
   | some (.ref id), some (.slice _) => (itD (S id)).map fun d => (.v (.int .i64 d.len), [])
   | some (.v (.slice _ n _)), some (.slice _) => some (.v (.int .i64 n), [])
   | some (.v (.string s)), some .string => some (.v (.int .i64 s.size), [])
   | some (.tref id), some (.slice _) => (itT (S id)).map fun d => (.v (.int .i64 d.len), [])
   | _, _ => none
  | _, _ => none
 | _ => none
section
variable {P : Program} {ι : Type} {φ ψ : Nat → Prop} {w0 w w' : World} {F : ι → Rs} {ρ : Nat → Value} {S : Nat → It}
theorem bE4 (n m : Nat) (v : Value) : (if m = 0 then aO1 n v else (⟨(aO1 n v).block, (aO1 n v).off + m, none⟩ : Addr)) = aO1 (n + m) v := by
 unfold aO1
 split
 ·rename_i h0
  subst h0
  split <;> simp
 ·split <;> simp [Nat.add_assoc]
theorem a53 {α β : Type} {f : α → Option β} : ∀ {l : List α} {r : List β}, l.mapM f = some r → ∀ {i : Nat} {x : α} {y : β}, l[i]? = some x → f x = some y → r[i]? = some y
 | [], _, _, _, _, _, hx, _ => by simp at hx
 | a :: l, r, h, i, x, y, hx, hy => by
  rw [List.mapM_cons] at h
  cases ha : f a with
  | none => rw [ha] at h; simp at h
  | some b =>
   cases hr : l.mapM f with
   | none => rw [ha, hr] at h; simp at h
   | some m =>
    rw [ha, hr] at h
    simp at h; subst h
    cases i with
    | zero => simp at hx; subst hx; rw [ha] at hy; cases hy; rfl
    | succ i => simpa using a53 hr (by simpa using hx) hy
theorem ab0 (ρ : Nat → Value) : ∀ (z : List Value), AV.vals ρ (z.map .v) = z
 | [] => rfl
 | a :: r => by simp only [cc2, AV.vals, AV.val]; rw [ab0 ρ r]
theorem an2 {e : Operand → Option AV} {g : Operand → Value} : ∀ {xs : List Operand} {l : List AV}, (∀ x ∈ xs, ∀ v, e x = some v → g x = v.val ρ) → xs.mapM e = some l → xs.map g = AV.vals ρ l
 | [], l, _, h => by simp at h; subst h; rfl
 | x :: r, l, hg, h => by
  rw [List.mapM_cons] at h
  cases hx : e x with
  | none => rw [hx] at h; simp at h
  | some v =>
   cases hr : r.mapM e with
   | none => rw [hx, hr] at h; simp at h
   | some m =>
    rw [hx, hr] at h
    simp at h; subst h
    simp only [cc2, AV.vals]
    rw [hg x ca6 v hx, an2 (fun y hy => hg y (ca9 _ hy)) hr]
theorem bK4 (M : n6 φ ψ w0 w (t4 F ρ S)) {o : Oper} {e : Operand → Option AV} {g : Operand → Value} (hg : ∀ x ∈ o.op.operands, ∀ v, e x = some v → g x = v.val ρ) {r : AV} {obs : List Prop} (h : ab4 P e S o.op = some (r, obs)) (ho : w9 obs) :
  (execOp g o).run P w = .ok (.value (r.val ρ)) w := by
 unfold execOp
 generalize o.op = op at *
 cases op <;> simp only [ab4] at h <;> first | cases h | skip
 case move x =>
  obtain ⟨v, h1, h2⟩ := b92.1 h
  cases h2
  simp [hg x (by simp [Op.operands]) _ h1]
 case assign x =>
  obtain ⟨v, h1, h2⟩ := b92.1 h
  cases h2
  simp [hg x (by simp [Op.operands]) _ h1]
 case binOp b t x y t' =>
  split at h
  ·rename_i a c h1 h2
   obtain ⟨v, h3, h4⟩ := b92.1 h
   cases h4
   have hx := hg x (by simp [Op.operands]) _ h1
   have hy := hg y (by simp [Op.operands]) _ h2
   simp only [AV.val] at hx hy
   have hr := bz4 (P := P) (w := w) (t := t) (x := x) (y := y) (r := v.1) (obs := v.2) h3 ho
   simp only [hx, hy]
   rw [Sem.run_bind, hr]; rfl
  ·cases h
 case unOp b t x =>
  split at h <;> first | cases h | skip
  ·rename_i b h1
   simp [hg x (by simp [Op.operands]) _ h1, AV.val, Op.unary]
  ·rename_i k n h1
   simp only [w9] at ho
   have ho1 := ho.1
   simp only [Int.zero_sub] at ho1
   simp [hg x (by simp [Op.operands]) _ h1, AV.val, Op.unary, Op.intArith, ho1]
 case nilCheck x =>
  split at h <;> first | cases h | skip
  ·rename_i a b h1
   simp [hg x (by simp [Op.operands]) _ h1, AV.val]
  ·rename_i a b c d h1
   simp [hg x (by simp [Op.operands]) _ h1, AV.val]
  ·rename_i a b h1
   simp [hg x (by simp [Op.operands]) _ h1, AV.val]
  ·rename_i a b h1
   simp [hg x (by simp [Op.operands]) _ h1, AV.val]
 case fieldAddr s x f =>
  have key : ∀ (a : Addr) (off : Nat) (ft : TypeId), aI3 P s f = some (off, ft) → (X6 P ft).any (0 < ·) = true → (Instr.fieldAt s (.pointer (some a)) f).run P w = .ok (.pointer (some (a.add off))) w := by
   intro a off ft h1 h2
   obtain ⟨fs, y, k1, k2, k3, k4⟩ := bg3 h1
   cases hn : X6 P ft with
   | none => rw [hn] at h2; cases h2
   | some n =>
    rw [hn] at h2
    simp at h2
    subst k4
    simp [Instr.fieldAt, run_underlying k1, k2, Instr.sureAddr, fieldPlace, F2 hn, k3]
    intro h0; omega
  split at h
  ·rename_i off ft a b h1 h2
   split at h
   ·rename_i hs
    cases h
    simp only [hg x (by simp [Op.operands]) _ h2, AV.val]
    rw [Sem.run_bind, key _ _ _ h1 hs]
    simp only [Result.andThen_ok, Sem.run_pure, Addr.add]
    split
    ·rename_i h0; subst h0; rfl
    ·rfl
   ·cases h
  ·rename_i off ft a b c d h1 h2
   split at h
   ·rename_i hs
    cases h
    simp only [hg x (by simp [Op.operands]) _ h2, AV.val]
    rw [Sem.run_bind, key _ _ _ h1 hs]
    simp only [Result.andThen_ok, Sem.run_pure, Addr.add]
    rw [bE4, Nat.add_assoc]
   ·cases h
  ·cases h
 case field s x f =>
  split at h <;> first | cases h | skip
  rename_i off ft l h1 h2
  obtain ⟨fs, y, k1, k2, k3, k4⟩ := bg3 h1
  subst k3; subst k4
  have hx := hg x (by simp [Op.operands]) _ h2
  simp only [AV.val] at hx
  split at h <;> first | cases h | skip
  ·rename_i n h3 h4
   simp [Instr.field, run_underlying k1, k2, hx, asAgg, part, am8 h3, F2 h4, AV.val, AV.vals_take, AV.vals_drop, List.take_drop]
  ·rename_i z h3
   obtain ⟨v, h5, h6⟩ := b92.1 h
   cases h6
   simp [Instr.field, run_underlying k1, k2, hx, asAgg, part, am8 h3, AV.vals_get, h5]
 case extract x i =>
  split at h <;> first | cases h | skip
  rename_i l h1
  obtain ⟨v, h2, h3⟩ := b92.1 h
  cases h3
  simp [Instr.extract, hg x (by simp [Op.operands]) _ h1, AV.val, AV.vals_get, h2]
 case indexAddr t x ix =>
  split at h <;> first | cases h | skip
  ·rename_i id k i h1 h2
   split at h <;> first | cases h | skip
   rename_i d n h3 h4
   split at h <;> first | cases h | skip
   rename_i hn
   subst hn
   simp only [w9] at ho
   obtain ⟨e', h5, h6⟩ := Option.bind_eq_some_iff.1 h4
   obtain ⟨a, cap, hr, _, _, hc⟩ := M.sliceAt h3
   obtain ⟨b, off, rfl, _⟩ := hc i.toNat (by omega)
   have hx := hg x (by simp [Op.operands]) _ h1
   have hi := hg ix (by simp [Op.operands]) _ h2
   simp only [AV.val] at hx hi
   rw [hr] at hx
   simp [Instr.indexAt, hx, hi, asIntOf, run_underlying (Y1 h5), F2 h6, ho.1, ho.2.1, AV.val, hr, N4, aO1, Addr.add]
  ·rename_i id k i h1 h2
   split at h <;> first | cases h | skip
   rename_i d n h3 h4
   split at h <;> first | cases h | skip
   rename_i hn
   subst hn
   simp only [w9] at ho
   obtain ⟨e', h5, h6⟩ := Option.bind_eq_some_iff.1 h4
   obtain ⟨e2, xs, S', _, k1, _⟩ := (M.treeAt h3).1
   rcases k1.2 with ⟨_, k2⟩ | ⟨b, cap, cur, hr, _⟩
   ·exfalso; omega
   have hx := hg x (by simp [Op.operands]) _ h1
   have hi := hg ix (by simp [Op.operands]) _ h2
   simp only [AV.val] at hx hi
   rw [hr] at hx
   simp [Instr.indexAt, hx, hi, asIntOf, run_underlying (Y1 h5), F2 h6, ho.1, ho.2.1, AV.val, hr, aO1, Addr.add]
   intro h0; exact h0.symm
 case index t x ix =>
  split at h <;> first | cases h | skip
  rename_i s k i h1 h2
  split at h <;> first | cases h | skip
  rename_i h3
  simp only [w9] at ho
  have hx := hg x (by simp [Op.operands]) _ h1
  have hi := hg ix (by simp [Op.operands]) _ h2
  simp only [AV.val] at hx hi
  have hlt : i.toNat < s.size := by omega
  simp [Instr.index, hx, hi, asIntOf, run_underlying h3, ho.1, AV.val, hlt]
  rfl
 case convert s d x =>
  split at h <;> first | cases h | skip
  ·rename_i k n h1
   split at h <;> first | cases h | skip
   rename_i k' h2 h3
   simp only [w9] at ho
   obtain ⟨ds, hds⟩ := cd0.1 h2
   have hx := hg x (by simp [Op.operands]) _ h1
   simp only [AV.val] at hx
   cases ds <;> simp [convert, hx, run_underlying hds, run_underlying h3, Conv.intToInt, ho.1, AV.val]
  ·rename_i str h1
   split at h <;> first | cases h | skip
   rename_i h2 h3
   obtain ⟨ds, hds⟩ := cd0.1 h2
   have hx := hg x (by simp [Op.operands]) _ h1
   simp only [AV.val] at hx
   cases ds <;> simp [convert, hx, run_underlying hds, run_underlying h3, AV.val]
 case makeFunc fn first cap =>
  cases fn <;> simp only [ab4] at h <;> first | cases h | skip
  rename_i f
  split at h
  ·rename_i hf
   obtain ⟨l, h1, h2⟩ := b92.1 h
   cases h2
   have hf' : first = #[] := by simpa using hf
   subst hf'
   have := an2 (ρ := ρ) (g := g) (fun x hx v hv => hg x (by simp [Op.operands]; simpa using hx) v hv) h1
   simp only [Instr.makeFunc, AV.val, ← this]
   have : Array.map g cap = (List.map g cap.toList).toArray := by apply Array.ext'; simp
   simp [this]
  split at h <;> first | cases h | skip
  rename_i hf
  obtain ⟨l, h1, h2⟩ := b92.1 h
  cases h2
  have hf' : cap = #[] := by simpa using hf
  subst hf'
  have := an2 (ρ := ρ) (g := g) (fun x hx v hv => hg x (by simp [Op.operands]; simpa using hx) v hv) h1
  simp only [Instr.makeFunc, AV.val, ← this]
  have : Array.map g first = (List.map g first.toList).toArray := by apply Array.ext'; simp
  simp [this]
 case build t parts =>
  split at h <;> first | cases h | skip
  rename_i z fs h1 h2
  split at h <;> first | cases h | skip
  rename_i places hpl
  obtain ⟨l, h3, h4⟩ := b92.1 h
  cases h4
  obtain ⟨it, hit, hz⟩ : ∃ it, P.info? t = some it ∧ it.zero = some z := by
   unfold K3 at h1
   exact Option.bind_eq_some_iff.1 h1
  have hb : P.built t (parts.map fun (i, x) => (i, g x)).toList = some (AV.vals ρ l).toArray := by
   unfold Program.built
   simp only [hit, h2, hz, hpl]
   have h5 := bo0 M h2 (e := e) (g := g) (places := places.toArray) (fun i off ft n k1 k2 => by
    obtain ⟨fs', x, m1, m2, m3, m4⟩ := bg3 k1
    rw [h2] at m1; cases m1
    obtain ⟨y, n1, n2⟩ := b92.1 k2
    have := a53 hpl (i := i) (x := x) (y := (off, n)) (by simpa using m2) (by simp [m4, n1, m3, n2])
    simpa using this) parts.toList _ l (fun p hp v hv => hg p.2 (by simp [Op.operands]; exact ⟨p.1, by simpa using hp⟩) v hv) h3
   rw [ab0] at h5
   rw [← h5]
   simp
  rw [Sem.run_bind, run_build w t _ _ hb]
  simp [AV.val]
 case call c =>
  obtain ⟨callee, args, argTypes⟩ := c
  cases callee <;> (try simp only [ab4] at h) <;> first | cases h | skip
  rename_i b
  cases b <;> (try simp only [ab4] at h) <;> first | cases h | skip
  split at h <;> first | cases h | skip
  rename_i x t hx ht
  have hx' : args = #[x] := by apply Array.ext'; simpa using hx
  have ht' : argTypes = #[t] := by apply Array.ext'; simpa using ht
  subst hx'; subst ht'
  split at h <;> first | cases h | skip
  ·rename_i id e' h1 h2
   obtain ⟨d, h3, h4⟩ := b92.1 h
   cases h4
   obtain ⟨a, cap, hr, _⟩ := M.sliceAt h3
   have hxx := hg x (by simp [Op.operands, Call.operands]) _ h1
   simp only [AV.val] at hxx
   rw [hr] at hxx
   simp [resolve, invoke, builtin, hxx, Builtin.len_, run_underlying h2, AV.val, goInt]
  ·rename_i a n cap e' h1 h2
   have hxx := hg x (by simp [Op.operands, Call.operands]) _ h1
   simp only [AV.val] at hxx
   simp [resolve, invoke, builtin, hxx, Builtin.len_, run_underlying h2, AV.val, goInt]
  ·rename_i str h1 h2
   have hxx := hg x (by simp [Op.operands, Call.operands]) _ h1
   simp only [AV.val] at hxx
   simp [resolve, invoke, builtin, hxx, Builtin.len_, run_underlying h2, AV.val, goInt]
  ·rename_i id e' h1 h2
   obtain ⟨d, h3, h4⟩ := b92.1 h
   cases h4
   obtain ⟨a, cap, hr⟩ := aI4 (M.treeAt h3).1
   have hxx := hg x (by simp [Op.operands, Call.operands]) _ h1
   simp only [AV.val] at hxx
   rw [hr] at hxx
   simp [resolve, invoke, builtin, hxx, Builtin.len_, run_underlying h2, AV.val, goInt]
end
theorem Z2 {ks : List d7} {k : Nat} (h : k < ks.length) : s8 (ks.take (k + 1)) = s8 (ks.take k) + (1 + F0 ks[k]) := by
 rw [n9 _ _ h, P6]
 simp [s8]
end Go.Proofs.YthikdkjjdeehoaaGreat

namespace Go.Proofs.YthikdkjjdeehoaaGreat
set_option linter.unusedVariables false
set_option linter.unusedSimpArgs false
open Go Go.RowKit
theorem V0 (us : List Value) : ∀ (c ys : List Value) (p : Nat), c.length ≤ p → setFrom (c ++ ys) p us = c ++ setFrom ys (p - c.length) us := by
 induction us with
 | nil => intro c ys p _; rfl
 | cons u r ih =>
  intro c ys p hp
  simp only [setFrom]
  rw [List.set_append_right _ _ hp, ih _ _ _ (by omega), show p + 1 - c.length = p - c.length + 1 by omega]
theorem X1 (us : List Value) : ∀ (c ys : List Value) (p : Nat), p + us.length ≤ c.length → setFrom (c ++ ys) p us = setFrom c p us ++ ys := by
 induction us with
 | nil => intro c ys p _; rfl
 | cons u r ih =>
  intro c ys p hp
  simp only [b84] at hp
  simp only [setFrom]
  rw [List.set_append_left _ _ (by omega), ih _ _ _ (by simp; omega)]
theorem ap3 {c us : List Value} (h : us.length = c.length) : setFrom c 0 us = us := by
 have h1 := at9 us c 0 (by omega)
 rw [cc3, b98 (by rw [K4]; omega)] at h1
 simpa using h1
theorem E7.len {w : World} {e : d7} {S : Nat → Prop} {c : List Value} (h : E7 w e S c) : c.length = 3 := by
 obtain ⟨kv, rfl, _⟩ := (E7.iff e S c).1 h; rfl
theorem G0.len {w : World} {s : b5} {S : Nat → Prop} {c : List Value} (h : G0 w s S c) : c.length = 11 := by
 obtain ⟨_, _, _, _, _, _, _, _, rfl, _⟩ := (G0.iff s S c).1 h; rfl
theorem s6.focus {w : World} : ∀ {ls : List d7} {S : Nat → Prop} {xs : List Value}, s6 w ls S xs → ∀ (i : Nat) (hi : i < ls.length), ∃ (c : List Value) (Sc : Nat → Prop), E7 w ls[i] Sc c ∧ (∀ b, Sc b → S b) ∧ (∀ j, j < 3 → xs[i * 3 + j]? = c[j]?) ∧
  ∀ (w' : World) (e' : d7) (c' : List Value), (∀ b, S b → ¬ Sc b → b < w.heap.size → w'.heap[b]? = w.heap[b]?) → E7 w' e' Sc c' → s6 w' (ls.set i e') S (setFrom xs (i * 3) c')
 | [], _, _, _, i, hi => by simp at hi
 | e :: r, S, xs, ⟨c, ys, S1, S2, h1, h2, h3, h4, h5⟩, i, hi => by
  have hc := h4.len
  subst h1
  cases i with
  | zero =>
   refine ⟨c, S1, h4, fun b hb => (h2 b hb).1, fun j hj => by rw [cb9 (by omega)]; simp, fun w' e' c' hs hO => ?_⟩
   refine ⟨c', ys, S1, S2, ?_, h2, h3, hO, s6.same r S2 ys h5 fun b hb hlt => hs b (h3 b hb) (fun h => (h2 b h).2 hb) hlt⟩
   rw [Nat.zero_mul, X1 c' c ys 0 (by rw [hO.len]; omega), ap3 (by rw [hO.len, hc])]
  | succ i =>
   obtain ⟨d, Sc, k1, k2, k3, k4⟩ := s6.focus h5 i (by simpa using hi)
   refine ⟨d, Sc, k1, fun b hb => h3 b (k2 b hb), fun j hj => ?_, fun w' e' c' hs hO => ?_⟩
   ·rw [cc9 (by rw [hc, cc1]; omega), ← k3 j hj]
    congr 1
    rw [hc, cc1]; omega
   ·refine ⟨c, setFrom ys (i * 3) c', S1, S2, ?_, h2, h3, E7.same e S1 c h4 fun b hb hlt => hs b (h2 b hb).1 (fun h => (h2 b hb).2 (k2 b h)) hlt, k4 w' e' c' (fun b hb hn hlt => hs b (h3 b hb) hn hlt) hO⟩
    rw [V0 c' c ys _ (by rw [hc, cc1]; omega), hc, cc1, Nat.add_sub_cancel]
theorem s4.focus {w : World} : ∀ {ls : List b5} {S : Nat → Prop} {xs : List Value}, s4 w ls S xs → ∀ (i : Nat) (hi : i < ls.length), ∃ (c : List Value) (Sc : Nat → Prop), G0 w ls[i] Sc c ∧ (∀ b, Sc b → S b) ∧ (∀ j, j < 11 → xs[i * 11 + j]? = c[j]?) ∧
  ∀ (w' : World) (e' : b5) (c' : List Value), (∀ b, S b → ¬ Sc b → b < w.heap.size → w'.heap[b]? = w.heap[b]?) → G0 w' e' Sc c' → s4 w' (ls.set i e') S (setFrom xs (i * 11) c')
 | [], _, _, _, i, hi => by simp at hi
 | e :: r, S, xs, ⟨c, ys, S1, S2, h1, h2, h3, h4, h5⟩, i, hi => by
  have hc := h4.len
  subst h1
  cases i with
  | zero =>
   refine ⟨c, S1, h4, fun b hb => (h2 b hb).1, fun j hj => by rw [cb9 (by omega)]; simp, fun w' e' c' hs hO => ?_⟩
   refine ⟨c', ys, S1, S2, ?_, h2, h3, hO, s4.same r S2 ys h5 fun b hb hlt => hs b (h3 b hb) (fun h => (h2 b h).2 hb) hlt⟩
   rw [Nat.zero_mul, X1 c' c ys 0 (by rw [hO.len]; omega), ap3 (by rw [hO.len, hc])]
  | succ i =>
   obtain ⟨d, Sc, k1, k2, k3, k4⟩ := s4.focus h5 i (by simpa using hi)
   refine ⟨d, Sc, k1, fun b hb => h3 b (k2 b hb), fun j hj => ?_, fun w' e' c' hs hO => ?_⟩
   ·rw [cc9 (by rw [hc, cc1]; omega), ← k3 j hj]
    congr 1
    rw [hc, cc1]; omega
   ·refine ⟨c, setFrom ys (i * 11) c', S1, S2, ?_, h2, h3, G0.same e S1 c h4 fun b hb hlt => hs b (h2 b hb).1 (fun h => (h2 b hb).2 (k2 b h)) hlt, k4 w' e' c' (fun b hb hn hlt => hs b (h3 b hb) hn hlt) hO⟩
    rw [V0 c' c ys _ (by rw [hc, cc1]; omega), hc, cc1, Nat.add_sub_cancel]
section
variable {φ ψ : Nat → Prop} {w0 w w' : World} {L : List Res}
theorem s6.at : ∀ {ks : List d7} {S : Nat → Prop} {xs : List Value}, s6 w ks S xs → ∀ (i : Nat) (hi : i < ks.length), ∃ kv, xs[i * 3]? = some (.int .i64 ks[i].kind) ∧ xs[i * 3 + 1]? = some (.int .i64 ks[i].value) ∧ xs[i * 3 + 2]? = some kv ∧ I3 w kv ks[i].kids S
 | [], _, _, _, i, hi => by simp at hi
 | e :: r, S, _, ⟨c, ys, S1, S2, h1, h2, h3, h4, h5⟩, i, hi => by
  obtain ⟨kv, rfl, hk⟩ := (E7.iff e S1 c).1 h4
  subst h1
  cases i with
  | zero => exact ⟨kv, rfl, rfl, rfl, hk.mono fun b hb => (h2 b hb).1⟩
  | succ i =>
   obtain ⟨kv', a, b, d, f⟩ := s6.at h5 i (by simpa using hi)
   refine ⟨kv', ?_, ?_, ?_, f.mono h3⟩ <;> (rw [cc1]; simpa [Nat.add_assoc] using by assumption)
theorem I3.open {v : Value} {ks : List d7} {S : Nat → Prop} (h : I3 w v ks S) : ∃ a cap, v = .slice a ks.length cap ∧ ks.length ≤ cap ∧ ks.length ≤ 9223372036854775807 ∧ cap ≤ 9223372036854775807 ∧
  ∀ i (hi : i < ks.length), ∃ b off kv, a = some ⟨b, off, none⟩ ∧ b < w.heap.size ∧ S b ∧ w.cell? ⟨b, off + i * 3, none⟩ = some (.int .i64 ks[i].kind) ∧ w.cell? ⟨b, off + i * 3 + 1, none⟩ = some (.int .i64 ks[i].value) ∧ w.cell? ⟨b, off + i * 3 + 2, none⟩ = some kv ∧ I3 w kv ks[i].kids S := by
 obtain ⟨xs, S', h2, h3, h4, h5⟩ := h
 obtain ⟨hl, a, cap, hv, n1, n2, n3⟩ := E8 (φ := fun g => S g ∧ ¬ S' g) h2 h3
 unfold maxLen at n2
 refine ⟨a, cap, hv, n1, by omega, by omega, fun i hi => ?_⟩
 obtain ⟨b, off, he, hb, hf, hc⟩ := n3 (by omega)
 obtain ⟨kv, e0, e1, e2, hk⟩ := h5.at i hi
 exact ⟨b, off, kv, he, hb, hf.1, hc _ _ e0, hc _ _ e1, hc _ _ e2, hk.mono h4⟩
theorem I3.nil (w : World) (S : Nat → Prop) : I3 w (.slice none 0 0) [] S := ⟨[], fun _ => False, World.ownsRow_nil _ _ _ _, (fun g hg => by cases hg), fun _ h => h.elim, rfl⟩
end
end Go.Proofs.YthikdkjjdeehoaaGreat

namespace Go.Proofs.YthikdkjjdeehoaaGreat
set_option linter.unusedVariables false
set_option linter.unusedSimpArgs false
open Go Go.RowKit
theorem aj8 (us : List Value) : ∀ (ys : List Value) (p q : Nat), p + us.length ≤ ys.length → (setFrom ys p us)[q]? = if p ≤ q ∧ q < p + us.length then us[q - p]? else ys[q]? := by
 induction us with
 | nil => intro ys p q _; simp only [setFrom, b86]; split; omega; rfl
 | cons u r ih =>
  intro ys p q h
  simp only [b84] at h
  simp only [setFrom, b84]
  rw [ih _ _ _ (by simp; omega)]
  by_cases h1 : q = p
  ·subst h1
   rw [if_neg (by omega), if_pos (by omega), List.getElem?_set_self (by omega), Nat.sub_self]; rfl
  ·by_cases h2 : p + 1 ≤ q ∧ q < p + 1 + r.length
   ·rw [if_pos h2, if_pos (by omega), show q - p = q - (p + 1) + 1 by omega]; rfl
   ·rw [if_neg h2, if_neg (by omega), List.getElem?_set_ne (by omega)]
theorem au0 {xs cs : List Value} {p : Nat} (h : p + cs.length ≤ xs.length) (hc : ∀ j, j < cs.length → xs[p + j]? = cs[j]?) : setFrom xs p cs = xs := by
 apply List.ext_getElem?
 intro q
 rw [aj8 _ _ _ _ h]
 split
 ·rename_i h1
  rw [← hc _ (by omega)]; congr 1; omega
 ·rfl
theorem aB6 {xs cs : List Value} {p k : Nat} (u : Value) (h : p + cs.length ≤ xs.length) (hk : k < cs.length) : (setFrom xs p cs).set (p + k) u = setFrom xs p (cs.set k u) := by
 apply List.ext_getElem?
 intro q
 rw [aj8 _ _ _ _ (by simpa using h), List.getElem?_set, aj8 _ _ _ _ h, K4, b97]
 by_cases h1 : p + k = q
 ·subst h1
  rw [if_pos rfl, if_pos (by omega), if_pos (by omega), Nat.add_sub_cancel_left, List.getElem?_set_self hk]
 ·rw [if_neg h1]
  split
  ·rw [List.getElem?_set_ne (by omega)]
  ·rfl
def Res.plain : Res → Prop
 | .dat _ => False
 | _ => True
theorem Res.holds_plain {w : World} {φ φ' : Nat → Prop} {r : Res} (hp : r.plain) (h : r.holds w φ) : r.holds w φ' := by
 cases r with
 | dat R => exact hp.elim
 | box b cs => exact h
 | row e sz v n xs => exact h
 | own S R => exact h
theorem C1.adopt {φ ψ : Nat → Prop} {w0 w : World} {L : List Res} (M : C1 φ ψ w0 w L) (r : Res) (hL : ∀ a ∈ L, a.plain) (hp : r.plain) (h : r.holds w (fun _ => True)) (hd : ∀ a ∈ L, ∀ g, r.blk g → ¬ a.blk g) (hg : ∀ g, r.blk g → ¬ ψ g) : C1 φ ψ w0 w (L ++ [r]) := by
 have get : ∀ (i : Nat) (x : Res), (L ++ [r])[i]? = some x → (i < L.length ∧ x ∈ L ∧ L[i]? = some x) ∨ (i = L.length ∧ x = r) := by
  intro k z hz
  rcases ca8 k L.length with hk | hk
  ·rw [cb9 hk] at hz; exact .inl ⟨hk, ca7 hz, hz⟩
  ·rw [cc9 hk] at hz
   have : k - L.length = 0 := by
    rcases Nat.eq_zero_or_pos (k - L.length) with h | h
    ·exact h
    ·rw [cb3 (by rw [List.length_singleton]; exact h)] at hz; cases hz
   rw [this] at hz; simp at hz
   exact .inr ⟨by omega, hz.symm⟩
 refine ⟨M.kept, M.fresh, fun x hx => ?_, fun i j x y g hi hj hij hx hy => ?_, fun x g hx hxg => ?_⟩
 ·rcases ca1.1 hx with hx | hx
  ·exact Res.holds_plain (hL x hx) (M.holds x hx)
  ·rw [ca4] at hx; subst hx; exact Res.holds_plain hp h
 ·rcases get i x hi with ⟨hi1, hi2, hi3⟩ | ⟨hi1, rfl⟩ <;> rcases get j y hj with ⟨hj1, hj2, hj3⟩ | ⟨hj1, rfl⟩
  ·exact M.dis i j x y g hi3 hj3 hij hx hy
  ·exact hd x hi2 g hy hx
  ·exact hd y hj2 g hx hy
  ·omega
 ·rcases ca1.1 hx with hx | hx
  ·exact M.ge x g hx hxg
  ·rw [ca4] at hx; subst hx; exact .inr (hg g hxg)
section
variable {w : World}
mutual
theorem E7.cut : ∀ (e : d7) (S : Nat → Prop) (cs : List Value), E7 w e S cs → E7 w e (fun b => S b ∧ b < w.heap.size) cs
 | ⟨_, _, ks⟩, _, _, ⟨v, xs, S', h1, h2, h3, h4, h5⟩ => ⟨v, xs, fun b => S' b ∧ b < w.heap.size, h1, h2, fun g hg => ⟨⟨(h3 g hg).1, (World.ownsRow.lt h2 g hg).2⟩, fun h => (h3 g hg).2 h.1⟩, fun b hb => ⟨h4 b hb.1, hb.2⟩, s6.cut ks S' xs h5⟩
theorem s6.cut : ∀ (ks : List d7) (S : Nat → Prop) (xs : List Value), s6 w ks S xs → s6 w ks (fun b => S b ∧ b < w.heap.size) xs
 | [], _, _, h => h
 | e :: r, _, _, ⟨c, ys, S1, S2, h1, h2, h3, h4, h5⟩ => ⟨c, ys, fun b => S1 b ∧ b < w.heap.size, fun b => S2 b ∧ b < w.heap.size, h1, fun b hb => ⟨⟨(h2 b hb.1).1, hb.2⟩, fun h => (h2 b hb.1).2 h.1⟩, fun b hb => ⟨h3 b hb.1, hb.2⟩, E7.cut e S1 c h4, s6.cut r S2 ys h5⟩
end
theorem I3.cut {v : Value} {ks : List d7} {S : Nat → Prop} (h : I3 w v ks S) : I3 w v ks (fun b => S b ∧ b < w.heap.size) := by
 obtain ⟨xs, S', h2, h3, h4, h5⟩ := h
 exact ⟨xs, fun b => S' b ∧ b < w.heap.size, h2, fun g hg => ⟨⟨(h3 g hg).1, (World.ownsRow.lt h2 g hg).2⟩, fun h => (h3 g hg).2 h.1⟩, fun b hb => ⟨h4 b hb.1, hb.2⟩, s6.cut ks S' xs h5⟩
mutual
theorem G0.cut : ∀ (s : b5) (S : Nat → Prop) (cs : List Value), G0 w s S cs → G0 w s (fun b => S b ∧ b < w.heap.size) cs
 | ⟨_, _, _, _, _, b, e⟩, _, _, ⟨iv, vv, bv, ev, xb, xe, Si, Sv, Sb, Se, Sb', Se', h1, ⟨d1, d2, d3, d4⟩, h2, h3, ⟨b1, b2, b3, b4⟩, ⟨e1, e2, e3, e4⟩⟩ =>
  ⟨iv, vv, bv, ev, xb, xe, fun b => Si b ∧ b < w.heap.size, fun b => Sv b ∧ b < w.heap.size, fun b => Sb b ∧ b < w.heap.size, fun b => Se b ∧ b < w.heap.size, fun b => Sb' b ∧ b < w.heap.size, fun b => Se' b ∧ b < w.heap.size, h1,
   ⟨fun b hb => ⟨⟨(d1 b hb.1).1, hb.2⟩, fun h => (d1 b hb.1).2.1 h.1, fun h => (d1 b hb.1).2.2.1 h.1, fun h => (d1 b hb.1).2.2.2 h.1⟩, fun b hb => ⟨⟨(d2 b hb.1).1, hb.2⟩, fun h => (d2 b hb.1).2.1 h.1, fun h => (d2 b hb.1).2.2 h.1⟩,
    fun b hb => ⟨⟨(d3 b hb.1).1, hb.2⟩, fun h => (d3 b hb.1).2 h.1⟩, fun b hb => ⟨d4 b hb.1, hb.2⟩⟩, h2.cut, h3.cut,
   ⟨b1, fun g hg => ⟨⟨(b2 g hg).1, (World.ownsRow.lt b1 g hg).2⟩, fun h => (b2 g hg).2 h.1⟩, fun b hb => ⟨b3 b hb.1, hb.2⟩, s4.cut b Sb' xb b4⟩,
   ⟨e1, fun g hg => ⟨⟨(e2 g hg).1, (World.ownsRow.lt e1 g hg).2⟩, fun h => (e2 g hg).2 h.1⟩, fun b hb => ⟨e3 b hb.1, hb.2⟩, s4.cut e Se' xe e4⟩⟩
theorem s4.cut : ∀ (ks : List b5) (S : Nat → Prop) (xs : List Value), s4 w ks S xs → s4 w ks (fun b => S b ∧ b < w.heap.size) xs
 | [], _, _, h => h
 | e :: r, _, _, ⟨c, ys, S1, S2, h1, h2, h3, h4, h5⟩ => ⟨c, ys, fun b => S1 b ∧ b < w.heap.size, fun b => S2 b ∧ b < w.heap.size, h1, fun b hb => ⟨⟨(h2 b hb.1).1, hb.2⟩, fun h => (h2 b hb.1).2 h.1⟩, fun b hb => ⟨h3 b hb.1, hb.2⟩, G0.cut e S1 c h4, s4.cut r S2 ys h5⟩
end
theorem J7.cut {v : Value} {ks : List b5} {S : Nat → Prop} (h : J7 w v ks S) : J7 w v ks (fun b => S b ∧ b < w.heap.size) := by
 obtain ⟨xs, S', h2, h3, h4, h5⟩ := h
 exact ⟨xs, fun b => S' b ∧ b < w.heap.size, h2, fun g hg => ⟨⟨(h3 g hg).1, (World.ownsRow.lt h2 g hg).2⟩, fun h => (h3 g hg).2 h.1⟩, fun b hb => ⟨h4 b hb.1, hb.2⟩, s4.cut ks S' xs h5⟩
end
section
variable {φ ψ : Nat → Prop} {w0 w : World} {L : List Res}
end
structure Tr where
 new : List (Nat × It)
 made : List Nat
 res : AV
 obs : List Prop
def bv7 (P : Program) (t : TypeId) (l : List AV) : Option AV :=
 match a23 P t with
 | some true => if X6 P t = some l.length then some (.agg l) else none
 | some false => match l with
  | [x] => some x
  | _ => none
 | none => none
def aI2 (P : Program) (t : TypeId) : Nat := match a23 P t with
 | some true => (X6 P t).getD 0
 | _ => 1
def aY5 (P : Program) (S : Nat → It) (id : Nat) (t : TypeId) : AV → Option Tr
 | .ptr a off => match S a with
  | .box cs => (bv7 P t ((cs.drop off).take (aI2 P t))).map fun r => ⟨[], [], r, []⟩
  | _ => none
 | .ea a i j sz => match itD (S a) with
  | some d =>
   if sz = d.sz then
    (bv7 P t (xav (((d.elem i).drop j).take (aI2 P t)) id)).map fun r => ⟨V7 (((d.elem i).drop j).take (aI2 P t)) id, (V7 (((d.elem i).drop j).take (aI2 P t)) id).map (·.1), r, [i < d.len]⟩
   else none
  | none => none
 | _ => none
def D.empty : D → D
 | .ints _ => .ints []
 | .bools _ => .bools []
 | .bytes _ => .bytes []
 | .strs _ => .strs []
 | .instrs _ => .instrs []
 | .events _ => .events []
 | .rows _ => .rows []
 | .brows _ => .brows []
 | .exprs _ => .exprs []
 | .stmts _ => .stmts []
def D.putX : D → Nat → List X → Option D
 | .ints l, i, [.v (.int .i64 n)] => some (.ints (l.set i n))
 | .bools l, i, [.v (.bool b)] => some (.bools (l.set i b))
 | .strs l, i, [.v (.string s)] => some (.strs (l.set i s))
 | .instrs l, i, [.v (.int .i64 o), .v (.int .i64 a), .v (.int .i64 b), .v (.int .i64 c), .v (.int .i64 d)] => some (.instrs (l.set i ⟨o, a, b, c, d⟩))
 | .events l, i, [.v (.int .i64 a), .v (.int .i64 b)] => some (.events (l.set i (a, b)))
 | .rows l, i, [.sl (.ints r)] => some (.rows (l.set i r))
 | .brows l, i, [.sl (.bools r)] => some (.brows (l.set i r))
 | .exprs l, i, [.v (.int .i64 a), .v (.int .i64 b), .sl (.exprs x)] => some (.exprs (l.set i ⟨a, b, x⟩))
 | .stmts l, i, [.v (.int .i64 a), .v (.int .i64 b), .v (.int .i64 c), .v (.int .i64 d), .sl (.exprs x), .v (.int .i64 e), .v (.int .i64 f), .sl (.exprs y), .v (.int .i64 g), .sl (.stmts z), .sl (.stmts u)] => some (.stmts (l.set i ⟨a, b, ⟨c, d, x⟩, ⟨e, f, y⟩, g, z, u⟩))
 | _, _, _ => none
def ag1 (S : Nat → It) : List X → List AV → Option (List X)
 | [], [] => some []
 | .v _ :: r, .v x :: s => (ag1 S r s).map (.v x :: ·)
 | .sl d0 :: r, y :: s => match y with
  | .ref id => match S id with
   | .dat d => (ag1 S r s).map (.sl d :: ·)
   | _ => none
  | .v (.slice none 0 0) => (ag1 S r s).map (.sl d0.empty :: ·)
  | _ => none
 | _, _ => none
def d7.putI (e : d7) (n : Int) : Nat → Option d7
 | 0 => some ⟨n, e.value, e.kids⟩
 | 1 => some ⟨e.kind, n, e.kids⟩
 | _ => none
def b5.putI (s : b5) (n : Int) : Nat → Option b5
 | 0 => some ⟨n, s.target, s.index, s.value, s.count, s.body, s.els⟩
 | 1 => some ⟨s.kind, n, s.index, s.value, s.count, s.body, s.els⟩
 | 2 => some ⟨s.kind, s.target, ⟨n, s.index.value, s.index.kids⟩, s.value, s.count, s.body, s.els⟩
 | 3 => some ⟨s.kind, s.target, ⟨s.index.kind, n, s.index.kids⟩, s.value, s.count, s.body, s.els⟩
 | 5 => some ⟨s.kind, s.target, s.index, ⟨n, s.value.value, s.value.kids⟩, s.count, s.body, s.els⟩
 | 6 => some ⟨s.kind, s.target, s.index, ⟨s.value.kind, n, s.value.kids⟩, s.count, s.body, s.els⟩
 | 8 => some ⟨s.kind, s.target, s.index, s.value, n, s.body, s.els⟩
 | _ => none
def D.putI (i j : Nat) (n : Int) : D → Option D
 | .exprs l => ((l.getD i b81).putI n j).map fun e => .exprs (l.set i e)
 | .stmts l => ((l.getD i b81).putI n j).map fun s => .stmts (l.set i s)
 | _ => none
def ad6 (P : Program) (S : Nat → It) (t : TypeId) (v : AV) : AV → Option Tr
 | .ptr a off => match S a with
  | .box cs => if aD3 S v && decide (X6 P t = some v.cells.length) && decide (off + v.cells.length ≤ cs.length) then some ⟨[(a, .box (aq4 cs off v.cells))], [], .v undef, []⟩ else none
  | _ => none
 | .ea a i j sz => match S a with
  | .row e d => if aD3 S v && decide (X6 P t = some v.cells.length) && decide (sz = d.sz) && decide (j + v.cells.length ≤ d.sz) then
    match ag1 S (((d.elem i).drop j).take v.cells.length) v.cells with
    | some xs => (d.putX i (aq4 (d.elem i) j xs)).map fun d' => ⟨[(a, .row e d')], [], .v undef, [i < d.len]⟩
    | none => none
   else none
  | .tree d => match v with
   | .v (.int .i64 n) => if decide (X6 P t = some 1) && decide (sz = d.sz) then (d.putI i j n).map fun d' => ⟨[(a, .tree d')], [], .v undef, [i < d.len]⟩ else none
   | _ => none
  | _ => none
 | _ => none
def be8 (S : Nat → It) (id : Nat) (v : AV) : Option Tr :=
 if aD3 S v then some ⟨[(id, .box v.cells)], [id], .ptr id 0, []⟩ else none
section
variable {P : Program} {ι : Type} {φ ψ : Nat → Prop} {w0 w w' : World} {F : ι → Rs} {ρ : Nat → Value} {S : Nat → It}
def K1 (φ ψ : Nat → Prop) (w0 : World) (F : ι → Rs) (ρ : Nat → Value) (S : Nat → It) (t : Tr) (v : Value) (w' : World) : Prop :=
 ∃ ρ', D7 t.made ρ ρ' ∧ n6 φ ψ w0 w' (t4 F ρ' (s7 S t.new)) ∧ v = t.res.val ρ'
theorem aA6 {t : TypeId} {l : List AV} {r : AV} (h : bv7 P t l = some r) (a : Addr) (hc : ∀ j u, (AV.vals ρ l)[j]? = some u → w.cell? (a.add j) = some u) : (loadVar t a).run P w = .ok (r.val ρ) w := by
 unfold bv7 at h
 unfold loadVar
 split at h
 ·rename_i ha
  split at h
  ·rename_i hs
   cases h
   have hl : l.length = (AV.vals ρ l).length := (AV.vals_length ρ l).symm
   have := run_loadCells_list (P := P) (w := w) a (AV.vals ρ l) hc
   rw [AV.vals_length] at this
   simp [am8 ha, F2 hs, this, AV.val]
  ·cases h
 ·rename_i ha
  split at h <;> first | cases h | skip
  rename_i x
  have h0 := hc 0 (r.val ρ) (by simp [AV.vals])
  have e : a.add 0 = a := by simp [Addr.add]
  rw [e] at h0
  simp [am8 ha, h0]
 ·cases h
theorem bR7 {d : D} {φ : Nat → Prop} {b off i : Nat} (h : ∀ j x, (d.elem i)[j]? = some x → ∃ u, w.cell? ⟨b, off + (i * d.sz + j), none⟩ = some u ∧ XH w φ x u) : ∀ (n j : Nat), ∃ us, XHs w φ (((d.elem i).drop j).take n) us ∧ ∀ k u, us[k]? = some u → w.cell? ⟨b, off + (i * d.sz + (j + k)), none⟩ = some u := by
 intro n
 induction n with
 | zero => intro j; exact ⟨[], by simp [XHs], by simp⟩
 | succ n ih =>
  intro j
  cases hx : (d.elem i)[j]? with
  | none =>
   have hl : (d.elem i).drop j = [] := by
    rw [List.drop_eq_nil_iff]; exact List.getElem?_eq_none_iff.1 hx
   exact ⟨[], by simp [hl, XHs], by simp⟩
  | some x =>
   obtain ⟨u, h1, h2⟩ := h j x hx
   obtain ⟨us, h3, h4⟩ := ih (j + 1)
   have hl := (b96.1 hx)
   refine ⟨u :: us, ?_, fun k u' hk => ?_⟩
   ·rw [List.drop_eq_getElem_cons hl.1, List.take_succ_cons, hl.2]
    exact ⟨h2, h3⟩
   ·cases k with
    | zero => simp at hk; subst hk; exact h1
    | succ k =>
     have := h4 k u' (by simpa using hk)
     rw [show j + (k + 1) = j + 1 + k by omega]; exact this
theorem bL6 (M : n6 φ ψ w0 w (t4 F ρ S)) {o : Oper} {g : Operand → Value} {t : TypeId} {x : Operand} (hop : o.op = .load t x) {av : AV} (hx : g x = av.val ρ) {id : Nat} {r : Tr} (h : aY5 P S id t av = some r) (ho : w9 r.obs) (hmk : ∀ j ∈ r.made, S j = .none) (hi : Inv S ρ r.made) :
  M8 P o g w (K1 φ ψ w0 F ρ S r) := by
 cases av <;> simp only [aY5] at h <;> first | cases h | skip
 ·rename_i a off
  split at h <;> first | cases h | skip
  rename_i cs hS
  obtain ⟨v, h1, h2⟩ := b92.1 h
  cases h2
  refine .inl ⟨v.val ρ, w, ?_, ρ, D7.refl _ _, M, rfl⟩
  have hb := M.boxAt hS
  have hl := aA6 (P := P) (ρ := ρ) (w := w) h1 ⟨X4 (ρ a), off, none⟩ (fun j u hj => by
   rw [AV.vals_take, AV.vals_drop] at hj
   have hadd : (⟨X4 (ρ a), off, none⟩ : Addr).add j = ⟨X4 (ρ a), off + j, none⟩ := by unfold Addr.add; split <;> simp_all
   rw [hadd, hb.cell]
   rw [List.getElem?_take] at hj
   split at hj
   ·rw [List.getElem?_drop] at hj; exact hj
   ·cases hj)
  simp [execOp, hop, hx, AV.val, Instr.loadAt, Instr.sureAddr, hl]
 ·rename_i a i j sz
  split at h <;> first | cases h | skip
  rename_i d hd
  split at h <;> first | cases h | skip
  rename_i hsz
  subst hsz
  obtain ⟨v, h1, h2⟩ := b92.1 h
  cases h2
  simp only [w9] at ho
  obtain ⟨aa, cap, hr, _, _, hc⟩ := M.sliceAt hd
  obtain ⟨b, off, rfl, hcc⟩ := hc i ho.1
  obtain ⟨us, k1, k2⟩ := bR7 hcc (aI2 P t) j
  obtain ⟨ρ', m1, m2, m3⟩ := M.dats _ us id k1 hmk hi
  refine .inl ⟨v.val ρ', w, ?_, ρ', m1, m2, rfl⟩
  have hl := aA6 (P := P) (ρ := ρ') (w := w) h1 ⟨b, off + (i * d.sz + j), none⟩ (fun k u hk => by
   rw [← m3] at hk
   have hadd : (⟨b, off + (i * d.sz + j), none⟩ : Addr).add k = ⟨b, off + (i * d.sz + (j + k)), none⟩ := by unfold Addr.add; split <;> simp_all [Nat.add_assoc]
   rw [hadd]; exact k2 k u hk)
  simp [execOp, hop, hx, AV.val, Instr.loadAt, Instr.sureAddr, hr, N4, aO1, hl]
theorem D8.setRow' {w : World} {b : Nat} {cs cs' : List Value} {T : TypeId} (_h : w.heap[b]? = some (.cells cs.toArray T (0, 0))) : D8 (fun c => ¬ c = b) w (w.setRow b cs'.toArray) ∧ H7 (w.setRow b cs'.toArray) b cs' :=
 ⟨⟨rfl, rfl, rfl, by simp, fun c _ hc => setRow_other _ _ _ _ hc⟩, T, setRow_heap _ _ _ _ _ _ _h⟩
theorem aJ5 {α : Type} : ∀ (us ys : List α) (p q : Nat), p + us.length ≤ ys.length → (aq4 ys p us)[q]? = if p ≤ q ∧ q < p + us.length then us[q - p]? else ys[q]?
 | [], ys, p, q, _ => by simp [aq4]; intro h1 h2; omega
 | u :: r, ys, p, q, h => by
  simp only [b84] at h
  simp only [aq4]
  rw [aJ5 r _ _ _ (by simp; omega)]
  by_cases h1 : p + 1 ≤ q ∧ q < p + 1 + r.length
  ·rw [if_pos h1, if_pos (by simp; omega)]
   rw [show q - p = (q - (p + 1)) + 1 by omega]; simp
  ·rw [if_neg h1]
   by_cases h2 : q = p
   ·subst h2
    rw [if_pos (by simp)]
    rw [List.getElem?_set_self (by omega)]; simp
   ·rw [if_neg (by simp; omega), List.getElem?_set_ne (by omega)]
theorem aS5 : ∀ (us ys : List Value) (p : Nat), setFrom ys p us = aq4 ys p us
 | [], _, _ => rfl
 | u :: r, ys, p => by simp only [setFrom, aq4]; exact aS5 r _ _
theorem aj9 : ∀ (us ys : List Value) (p k : Nat), (setFrom ys p us).take k = setFrom (ys.take k) p us
 | [], _, _, _ => rfl
 | u :: r, ys, p, k => by simp only [setFrom]; rw [aj9 r, List.take_set]
theorem S4 {α : Type} (f : α → List X) {l : List α} {i : Nat} {y z : α} {xs : List X} (h : f y = xs) : (i < l.length → f ((l.set i y).getD i z) = xs) ∧ ∀ k, k ≠ i → f ((l.set i y).getD k z) = f (l.getD k z) :=
 ⟨fun hi => by rw [b90, List.getElem?_set_self hi]; exact h, fun k hk => by rw [b90, List.getElem?_set_ne fun e => hk e.symm, ← b90]⟩
theorem D.putX_ok {d d' : D} {i : Nat} {xs : List X} (h : d.putX i xs = some d') : d'.len = d.len ∧ d'.sz = d.sz ∧ (i < d.len → d'.elem i = xs) ∧ ∀ k, k ≠ i → d'.elem k = d.elem k := by
 unfold D.putX at h
 split at h <;> first | cases h | skip
 ·exact ⟨by simp [D.len], rfl, S4 (fun n => [X.v (.int .i64 n)]) rfl⟩
 ·exact ⟨by simp [D.len], rfl, S4 (fun n => [X.v (.bool n)]) rfl⟩
 ·exact ⟨by simp [D.len], rfl, S4 (fun n => [X.v (.string n)]) rfl⟩
 ·exact ⟨by simp [D.len], rfl, S4 bf5 rfl⟩
 ·exact ⟨by simp [D.len], rfl, S4 ar7 rfl⟩
 ·exact ⟨by simp [D.len], rfl, S4 (fun r => [X.sl (.ints r)]) rfl⟩
 ·exact ⟨by simp [D.len], rfl, S4 (fun r => [X.sl (.bools r)]) rfl⟩
 ·exact ⟨by simp [D.len], rfl, S4 aN7 rfl⟩
 ·exact ⟨by simp [D.len], rfl, S4 aI9 rfl⟩
theorem D.empty_len (d : D) : d.empty.len = 0 := by cases d <;> rfl
theorem RD.empty (w : World) (φ : Nat → Prop) (d : D) : RD w φ d.empty (.slice none 0 0) := by
 refine RD.make (xs := []) ?_ fun i hi => by rw [D.empty_len] at hi; omega
 rw [D.empty_len]; exact z8.nil _ _ _
theorem aF1 (M : n6 φ ψ w0 w (t4 F ρ S)) : ∀ {old : List X} {l : List AV} {xs : List X}, ag1 S old l = some xs → XHs w (FrF φ (t4 F ρ S)) xs (AV.vals ρ l)
 | [], [], xs, h => by simp only [ag1, Option.some.injEq] at h; subst h; trivial
 | .v y :: r, .v x :: s, xs, h => by
  simp only [ag1, b92] at h
  obtain ⟨ys, h1, rfl⟩ := h
  exact ⟨rfl, aF1 M h1⟩
 | .sl d0 :: r, y :: s, xs, h => by
  simp only [ag1] at h
  split at h
  ·split at h <;> first | cases h | skip
   rename_i id _ d hS
   obtain ⟨ys, h1, rfl⟩ := b92.1 h
   exact ⟨M.datAt hS, aF1 M h1⟩
  ·obtain ⟨ys, h1, rfl⟩ := b92.1 h
   exact ⟨RD.empty _ _ _, aF1 M h1⟩
  ·cases h
 | [], _ :: _, xs, h => by simp [ag1] at h
 | .v _ :: _, [], xs, h => by simp [ag1] at h
 | .sl _ :: _, [], xs, h => by simp [ag1] at h
 | .v _ :: _, .ptr _ _ :: _, xs, h => by simp [ag1] at h
 | .v _ :: _, .ea _ _ _ _ :: _, xs, h => by simp [ag1] at h
 | .v _ :: _, .ref _ :: _, xs, h => by simp [ag1] at h
 | .v _ :: _, .agg _ :: _, xs, h => by simp [ag1] at h
 | .v _ :: _, .tup _ :: _, xs, h => by simp [ag1] at h
 | .v _ :: _, .fn _ _ :: _, xs, h => by simp [ag1] at h
 | .v _ :: _, .bm _ _ :: _, xs, h => by simp [ag1] at h
 | .v _ :: _, .tref _ :: _, xs, h => by simp [ag1] at h
theorem XHs.get {φ : Nat → Prop} : ∀ {xs : List X} {us : List Value}, XHs w φ xs us → xs.length = us.length ∧ ∀ (j : Nat) x, xs[j]? = some x → ∃ u, us[j]? = some u ∧ XH w φ x u
 | [], [], _ => ⟨rfl, fun j x h => by simp at h⟩
 | x :: r, u :: s, h => by
  obtain ⟨h1, h2⟩ := XHs.get h.2
  refine ⟨by simp [h1], fun j y hj => ?_⟩
  cases j with
  | zero => simp at hj; subst hj; exact ⟨u, rfl, h.1⟩
  | succ j => simpa using h2 j y (by simpa using hj)
 | [], _ :: _, h => h.elim
 | _ :: _, [], h => by cases h
theorem RW.put {φ : Nat → Prop} {d d' : D} {xs us : List Value} {i j : Nat} {ys : List X} (hx : RW w φ d xs) (hl : xs.length = d.len * d.sz) (hi : i < d.len) (hj : j + us.length ≤ d.sz) (hy : XHs w φ ys us) (h : d.putX i (aq4 (d.elem i) j ys) = some d') : RW w φ d' (setFrom xs (i * d.sz + j) us) := by
 obtain ⟨h1, h2, h3, h4⟩ := D.putX_ok h
 obtain ⟨g1, g2⟩ := hy.get
 have hfit : i * d.sz + j + us.length ≤ xs.length := by
  have : (i + 1) * d.sz ≤ d.len * d.sz := cc7 _ hi
  rw [cc1] at this
  omega
 intro k hk q x hq
 rw [aS5, h2, aJ5 _ _ _ _ hfit]
 by_cases e : k = i
 ·subst e
  rw [h3 hi, aJ5 _ _ _ _ (by rw [D.elem_len, g1]; exact hj)] at hq
  by_cases hr : j ≤ q ∧ q < j + ys.length
  ·rw [if_pos hr] at hq
   rw [if_pos (by omega)]
   obtain ⟨u, k1, k2⟩ := g2 _ x hq
   exact ⟨u, by rw [show k * d.sz + q - (k * d.sz + j) = q - j by omega]; exact k1, k2⟩
  ·rw [if_neg hr] at hq
   rw [if_neg (by omega)]
   exact hx k hi q x hq
 ·rw [h4 k e] at hq
  have hqs : q < d.sz := by rw [← D.elem_len d k]; exact (b96.1 hq).1
  rw [if_neg]
  ·exact hx k (by omega) q x hq
  ·rintro ⟨a1, a2⟩
   rcases Nat.lt_or_gt_of_ne e with h | h
   ·have : (k + 1) * d.sz ≤ i * d.sz := cc7 _ h
    rw [cc1] at this; omega
   ·have : (i + 1) * d.sz ≤ k * d.sz := cc7 _ h
    rw [cc1] at this; omega
theorem d7.putI_ok {w : World} {e e' : d7} {n : Int} {j : Nat} {S : Nat → Prop} {c : List Value} (h : e.putI n j = some e') (hO : E7 w e S c) : j < 3 ∧ E7 w e' S (c.set j (.int .i64 n)) := by
 obtain ⟨kv, rfl, hk⟩ := (E7.iff _ _ _).1 hO
 unfold d7.putI at h
 split at h <;> first | cases h | skip
 ·exact ⟨by omega, (E7.iff _ _ _).2 ⟨kv, rfl, hk⟩⟩
 ·exact ⟨by omega, (E7.iff _ _ _).2 ⟨kv, rfl, hk⟩⟩
theorem b5.putI_ok {w : World} {s s' : b5} {n : Int} {j : Nat} {S : Nat → Prop} {c : List Value} (h : s.putI n j = some s') (hO : G0 w s S c) : j < 11 ∧ G0 w s' S (c.set j (.int .i64 n)) := by
 obtain ⟨iv, vv, bv, ev, Si, Sv, Sb, Se, rfl, hd, h1, h2, h3, h4⟩ := (G0.iff _ _ _).1 hO
 unfold b5.putI at h
 split at h <;> first | cases h | skip
 all_goals exact ⟨by omega, (G0.iff _ _ _).2 ⟨iv, vv, bv, ev, Si, Sv, Sb, Se, rfl, hd, h1, h2, h3, h4⟩⟩
theorem S7.putI {w w' : World} {d d' : D} {i j : Nat} {n : Int} {S : Nat → Prop} {xs : List Value} (hp : d.putI i j n = some d') (hi : i < d.len) (hxl : xs.length = d.len * d.sz) (h : S7 w d S xs) (hs : ∀ b, S b → b < w.heap.size → w'.heap[b]? = w.heap[b]?) : d'.len = d.len ∧ d'.sz = d.sz ∧ ap1 d' = ap1 d ∧ j < d.sz ∧ S7 w' d' S (xs.set (i * d.sz + j) (.int .i64 n)) := by
 unfold D.putI at hp
 split at hp <;> first | cases hp | skip
 ·rename_i l
  obtain ⟨e', h1, h2⟩ := b92.1 hp
  cases h2
  have hi' : i < l.length := hi
  have hx := s6.same _ _ _ (show s6 w l S xs from h) hs
  obtain ⟨c, Sc, k1, k2, k3, k4⟩ := s6.focus hx i hi'
  rw [p6 hi'] at h1
  obtain ⟨p1, p2⟩ := d7.putI_ok h1 k1
  have hl := k1.len
  have hlen : xs.length = l.length * 3 := hxl
  refine ⟨by simp [D.len], rfl, rfl, p1, ?_⟩
  have := k4 w' e' _ (fun b _ _ _ => rfl) p2
  have hfit : i * 3 + 3 ≤ xs.length := by
   have : (i + 1) * 3 ≤ l.length * 3 := cc7 _ hi'
   rw [cc1] at this; omega
  have e : setFrom xs (i * 3) (c.set j (.int .i64 n)) = xs.set (i * 3 + j) (.int .i64 n) := by
   rw [← aB6 _ (by rw [hl]; exact hfit) (by rw [hl]; exact p1), au0 (by rw [hl]; exact hfit) (fun q hq => k3 q (by rw [hl] at hq; exact hq))]
  rw [e] at this
  exact this
 ·rename_i l
  obtain ⟨e', h1, h2⟩ := b92.1 hp
  cases h2
  have hi' : i < l.length := hi
  have hx := s4.same _ _ _ (show s4 w l S xs from h) hs
  obtain ⟨c, Sc, k1, k2, k3, k4⟩ := s4.focus hx i hi'
  rw [p6 hi'] at h1
  obtain ⟨p1, p2⟩ := b5.putI_ok h1 k1
  have hl := k1.len
  have hlen : xs.length = l.length * 11 := hxl
  refine ⟨by simp [D.len], rfl, rfl, p1, ?_⟩
  have := k4 w' e' _ (fun b _ _ _ => rfl) p2
  have hfit : i * 11 + 11 ≤ xs.length := by
   have : (i + 1) * 11 ≤ l.length * 11 := cc7 _ hi'
   rw [cc1] at this; omega
  have e : setFrom xs (i * 11) (c.set j (.int .i64 n)) = xs.set (i * 11 + j) (.int .i64 n) := by
   rw [← aB6 _ (by rw [hl]; exact hfit) (by rw [hl]; exact p1), au0 (by rw [hl]; exact hfit) (fun q hq => k3 q (by rw [hl] at hq; exact hq))]
  rw [e] at this
  exact this
theorem aV8 (M : n6 φ ψ w0 w (t4 F ρ S)) {o : Oper} {g : Operand → Value} {t : TypeId} {x y : Operand} (hop : o.op = .store t x y) {a i j : Nat} {n : Int} {d d' : D} (hx : g x = (AV.ea a i j d.sz).val ρ) (hy : g y = (AV.v (.int .i64 n)).val ρ) (k2 : X6 P t = some 1) (hS : S a = .tree d) (hd' : d.putI i j n = some d') (hi : i < d.len) :
  M8 P o g w (K1 φ ψ w0 F ρ S ⟨[(a, .tree d')], [], .v undef, [i < d.len]⟩) := by
 obtain ⟨hT, hlt⟩ := M.treeAt (id := a) (d := d) (by rw [hS]; rfl)
 obtain ⟨e, xs, S', h0, h1, h2, h3, h4⟩ := hT
 have hown := h1
 obtain ⟨hxl, hform⟩ := hown
 rcases hform with ⟨_, hn⟩ | ⟨b, cap, cur, hv, _, hb, hcap, hmax, hcs, htk⟩
 ·omega
 have hbS : L6 (ρ a) b ∧ ¬ S' b := h2 b (by rw [hv]; rfl)
 obtain ⟨q1, q2, q3, q4, -⟩ := S7.putI hd' hi hxl h4 fun _ _ _ => rfl
 have hfit : i * d.sz + j + 1 ≤ d.len * d.sz := by
  have : (i + 1) * d.sz ≤ d.len * d.sz := cc7 _ hi
  rw [cc1] at this
  omega
 have hcapsz : d.len * d.sz ≤ cap * d.sz := cc7 _ hcap
 have hcur : i * d.sz + j + 1 ≤ cur.toList.length := by
  have hc2 : cur.toList.length = cap * d.sz := by rw [Array.length_toList]; exact hcs
  omega
 have hst := run_storeCells_at (P := P) b (i * d.sz + j) e [.int .i64 n] 0 cur w hb (by simpa using hcur) (fun u hu => by rw [ca4.1 hu]; rfl)
 simp only [cc8] at hst
 rw [← Z3 _ _ _ (by simpa using hcur)] at hst
 have hrun : (execOp g o).run P w = .ok .skip (w.setRow b (setFrom cur.toList (i * d.sz + j) [.int .i64 n]).toArray) := by
  simp only [AV.val] at hx hy
  simp [execOp, hop, hx, hy, Instr.storeAt, Instr.sureAddr, storeVar, Value.cells, F2 k2, hv, aO1]
  rw [hst]; rfl
 have hk : D8 (fun c => ¬ ((S a).res ρ a).blk c) w (w.setRow b (setFrom cur.toList (i * d.sz + j) [.int .i64 n]).toArray) :=
  ⟨rfl, rfl, rfl, by simp, fun c _ hc => setRow_other _ _ _ _ fun e => hc (by rw [hS, e]; exact hbS.1)⟩
 have M1 : n6 φ ψ w0 (w.setRow b (setFrom cur.toList (i * d.sz + j) [.int .i64 n]).toArray) (t4 F ρ (s7 S [(a, .tree d')])) := by
  refine M.one a _ [] (fun ρ' h j => by rw [show ρ' = ρ from funext fun k => h k (by simp)]) (D7.refl _ _) hk (fun c hc => .inl (by rw [hS]; exact hc)) ?_
  simp only [It.res]
  refine ⟨fun _ _ h hs => h.same hs, ⟨e, setFrom xs (i * d.sz + j) [.int .i64 n], S', by rw [q3, h0], ?_, h2, h3, ?_⟩, fun c hc => by simpa using hlt c hc⟩
  ·rw [q1, q2]
   refine ⟨by rw [K4, hxl], .inr ⟨b, cap, (setFrom cur.toList (i * d.sz + j) [.int .i64 n]).toArray, hv, cb1 _, setRow_heap _ _ _ _ _ _ hb, hcap, hmax, ?_, ?_⟩⟩
   ·simp [K4, hcs]
   ·rw [← htk]; exact aj9 _ _ _ _
  ·exact (S7.putI hd' hi hxl h4 fun c hc _ => setRow_other _ _ _ _ fun e => hbS.2 (by rw [← e]; exact hc)).2.2.2.2
 exact .inr (.inl ⟨_, hrun, ρ, D7.refl _ _, M1, rfl⟩)
theorem a26 (M : n6 φ ψ w0 w (t4 F ρ S)) {o : Oper} {g : Operand → Value} {t : TypeId} {x y : Operand} (hop : o.op = .store t x y) {a i j sz : Nat} {vv : AV} (hx : g x = (AV.ea a i j sz).val ρ) (hy : g y = vv.val ρ) {r : Tr} (h : ad6 P S t vv (.ea a i j sz) = some r) (ho : w9 r.obs) :
  M8 P o g w (K1 φ ψ w0 F ρ S r) := by
 simp only [ad6] at h
 split at h <;> first | cases h | skip
 case h_2 d hS =>
  split at h <;> first | cases h | skip
  rename_i n
  split at h
  case isFalse => cases h
  rename_i hc
  simp only [b85, decide_eq_true_eq] at hc
  obtain ⟨k2, rfl⟩ := hc
  obtain ⟨d', hd', hr⟩ := b92.1 h
  subst hr
  simp only [w9] at ho
  exact aV8 M hop hx hy k2 hS hd' ho.1
 rename_i e d hS
 split at h
 case isFalse => cases h
 rename_i hc
 simp only [b85, decide_eq_true_eq] at hc
 obtain ⟨⟨⟨k1, k2⟩, rfl⟩, k3⟩ := hc
 split at h <;> first | cases h | skip
 rename_i ys hys
 obtain ⟨d', hd', hr⟩ := b92.1 h
 subst hr
 simp only [w9] at ho
 have hi := ho.1
 obtain ⟨c1, c2⟩ := Z6 M k1
 obtain ⟨xs, hown, hRW⟩ := M.rowAt hS
 have hXs := aF1 M hys
 obtain ⟨p1, p2, p3, p4⟩ := D.putX_ok hd'
 have hul : (AV.vals ρ vv.cells).length = vv.cells.length := AV.vals_length _ _
 have hsz : 0 < d.sz := by cases d <;> simp [D.sz]
 obtain ⟨hxl, hform⟩ := hown
 rcases hform with ⟨_, hn⟩ | ⟨b, cap, cur, hv, _, hb, hcap, hmax, hcs, htk⟩
 ·omega
 have hfit : i * d.sz + j + (AV.vals ρ vv.cells).length ≤ d.len * d.sz := by
  have : (i + 1) * d.sz ≤ d.len * d.sz := cc7 _ hi
  rw [cc1] at this
  omega
 have hcapsz : d.len * d.sz ≤ cap * d.sz := cc7 _ hcap
 have hcur : i * d.sz + j + (AV.vals ρ vv.cells).length ≤ cur.toList.length := by
  have hc2 : cur.toList.length = cap * d.sz := by rw [Array.length_toList]; exact hcs
  omega
 have hst := run_storeCells_at (P := P) b (i * d.sz + j) e (AV.vals ρ vv.cells) 0 cur w hb (by simpa using hcur) c2
 simp only [cc8] at hst
 rw [← Z3 _ _ _ hcur] at hst
 have hrun : (execOp g o).run P w = .ok .skip (w.setRow b (setFrom cur.toList (i * d.sz + j) (AV.vals ρ vv.cells)).toArray) := by
  simp [execOp, hop, hx, hy, AV.val, Instr.storeAt, Instr.sureAddr, storeVar, c1, F2 k2, AV.vals_length, hv, N4, aO1]
  rw [hst]; rfl
 have hblk : ∀ c, ((S a).res ρ a).blk c ↔ c = b := fun c => by
  rw [hS]; simp only [It.res, Rs.blk, hv, Value.ownBlock, Option.some.injEq]; exact ⟨fun h => h.symm, fun h => h.symm⟩
 have hk : D8 (fun c => ¬ ((S a).res ρ a).blk c) w (w.setRow b (setFrom cur.toList (i * d.sz + j) (AV.vals ρ vv.cells)).toArray) :=
  ⟨rfl, rfl, rfl, by simp, fun c _ hc => setRow_other _ _ _ _ fun e => hc ((hblk c).2 e)⟩
 have hfr : ∀ c, FrF φ (t4 F ρ S) c → FrF φ (t4 F ρ (s7 S [(a, .row e d')])) c := fun c hc => ⟨hc.1, fun k hk' => by
  cases k with
  | inl i => exact hc.2 (.inl i) hk'
  | inr q =>
   by_cases eq : q = a
   ·subst eq
    simp only [t4, s7, if_true] at hk'
    refine hc.2 (.inr q) ?_
    simp only [t4]
    rw [hS]; exact hk'
   ·simp only [t4, s7, if_neg eq] at hk'
    exact hc.2 (.inr q) hk'⟩
 have M1 : n6 φ ψ w0 (w.setRow b (setFrom cur.toList (i * d.sz + j) (AV.vals ρ vv.cells)).toArray) (t4 F ρ (s7 S [(a, .row e d')])) := by
  refine M.one a _ [] (fun ρ' h j => by rw [show ρ' = ρ from funext fun k => h k (by simp)]) (D7.refl _ _) hk (fun c hc => .inl (by rw [hS]; exact hc)) ?_
  simp only [It.res]
  refine ⟨fun xs => RW.nice d' xs, setFrom xs (i * d.sz + j) (AV.vals ρ vv.cells), ?_, ?_⟩
  ·rw [p1, p2]
   refine ⟨by rw [K4, hxl], .inr ⟨b, cap, (setFrom cur.toList (i * d.sz + j) (AV.vals ρ vv.cells)).toArray, hv, cb1 _, setRow_heap _ _ _ _ _ _ hb, hcap, hmax, ?_, ?_⟩⟩
   ·simp [K4, hcs]
   ·rw [← htk]; exact aj9 _ _ _ _
  ·refine RW.nice d' _ _ _ _ _ ⟨hk.size, fun c hc hf => ⟨hfr c hf, hk.block c hc fun he => hf.2 (.inr a) he⟩⟩ ?_
   exact RW.put hRW hxl hi (by rw [hul]; exact k3) hXs hd'
 exact .inr (.inl ⟨_, hrun, ρ, D7.refl _ _, M1, rfl⟩)
theorem bx3 (M : n6 φ ψ w0 w (t4 F ρ S)) {o : Oper} {g : Operand → Value} {t : TypeId} {x y : Operand} (hop : o.op = .store t x y) {av vv : AV} (hx : g x = av.val ρ) (hy : g y = vv.val ρ) {r : Tr} (h : ad6 P S t vv av = some r) (ho : w9 r.obs) :
  M8 P o g w (K1 φ ψ w0 F ρ S r) := by
 cases av
 case ea a i j sz => exact a26 M hop hx hy h ho
 all_goals (simp only [ad6] at h)
 all_goals first | cases h | skip
 rename_i a off
 split at h <;> first | cases h | skip
 rename_i cs hS
 split at h
 case isFalse => cases h
 rename_i hc
 simp only [b85, decide_eq_true_eq] at hc
 obtain ⟨⟨k1, k2⟩, k3⟩ := hc
 cases h
 obtain ⟨c1, c2⟩ := Z6 M k1
 obtain ⟨T, hb⟩ := M.boxAt hS
 have hst := run_storeCells_at (P := P) (X4 (ρ a)) off T (AV.vals ρ vv.cells) 0 _ w hb (by simp [AV.vals_length]; omega) c2
 obtain ⟨q1, q2⟩ := D8.setRow' (cs' := setFrom (AV.vals ρ cs) off (AV.vals ρ vv.cells)) hb
 simp only [cc8] at hst
 rw [← Z3 _ _ _ (by simp [AV.vals_length]; omega)] at hst
 have hrun : (execOp g o).run P w = .ok .skip (w.setRow (X4 (ρ a)) (setFrom (AV.vals ρ cs) off (AV.vals ρ vv.cells)).toArray) := by
  simp [execOp, hop, hx, hy, AV.val, Instr.storeAt, Instr.sureAddr, storeVar, c1, F2 k2, AV.vals_length]
  rw [hst]; rfl
 have M1 : n6 φ ψ w0 (w.setRow (X4 (ρ a)) (setFrom (AV.vals ρ cs) off (AV.vals ρ vv.cells)).toArray) (t4 F ρ (s7 S [(a, .box (aq4 cs off vv.cells))])) :=
  M.one a _ [] (fun ρ' h j => by rw [show ρ' = ρ from funext fun k => h k (by simp)]) (D7.refl _ _) (by rw [hS]; exact q1) (fun g hg => .inl (by rw [hS]; exact hg)) (by simp only [It.res, AV.vals_setL]; exact q2)
 exact .inr (.inl ⟨_, hrun, ρ, D7.refl _ _, M1, rfl⟩)
theorem bT9 (M : n6 φ ψ w0 w (t4 F ρ S)) {o : Oper} {g : Operand → Value} {t : TypeId} {vv : AV} {v : Value} (hop : (execOp g o).run P w = .ok (.value (.pointer (some ⟨w.heap.size, 0, none⟩))) (w.alloc (.cells v.cells t))) (hv : v = vv.val ρ) {id : Nat} {r : Tr} (h : be8 S id vv = some r) (hmk : ∀ j ∈ r.made, S j = .none) (hi : Inv S ρ r.made) :
  M8 P o g w (K1 φ ψ w0 F ρ S r) := by
 unfold be8 at h
 split at h
 case isFalse => cases h
 rename_i hc
 cases h
 obtain ⟨c1, _⟩ := Z6 M hc
 have hS : S id = .none := hmk id (by simp)
 have ha : D7 [id] ρ (fun j => if j = id then .pointer (some ⟨w.heap.size, 0, none⟩) else ρ j) := fun j hj => by
  have : j ≠ id := by simpa using hj
  simp [this]
 refine .inl ⟨_, _, hop, _, ha, M.one id _ [id] hi ha (D8.any ((Below.refl _ _).alloc (b94 _) _)) (fun g hg => ?_) ?_, ?_⟩
 ·simp only [It.res, if_true, X4] at hg
  exact .inr (by rw [show g = w.heap.size from hg]; exact b94 _)
 ·simp only [It.res, if_true, X4, Rs.holds]
  have e : AV.vals (fun j => if j = id then .pointer (some ⟨w.heap.size, 0, none⟩) else ρ j) vv.cells = AV.vals ρ vv.cells := AV.vals_congr _ fun k hk => by
   have : k ≠ id := fun e => bA9 hS hc (e ▸ hk)
   simp [this]
  rw [e, hv, c1]
  exact H7.new _ _ _
 ·simp [AV.val, X4]
end
def D.nil : Nat → Option D
 | 1 => some (.ints [])
 | 2 => some (.bools [])
 | 3 => some (.bytes [])
 | 4 => some (.strs [])
 | 5 => some (.instrs [])
 | 6 => some (.events [])
 | 7 => some (.rows [])
 | 8 => some (.brows [])
 | 9 => some (.exprs [])
 | 10 => some (.stmts [])
 | _ => none
theorem D.nil_len {k : Nat} {d : D} (h : D.nil k = some d) : d.len = 0 := by
 unfold D.nil at h
 split at h <;> first | (cases h; rfl) | cases h
def aZ8 (S : Nat → It) (k : Nat) : AV → Option D
 | .ref id => match S id with
  | .dat d => some d
  | _ => none
 | .v (.slice none 0 0) => D.nil k
 | _ => none
def bS1 (S : Nat → It) (k : Nat) : AV → Option D
 | .ref id => itD (S id)
 | .v (.slice none 0 0) => D.nil k
 | _ => none
def bT5 (S : Nat → It) (k : Nat) (l : List AV) : Option (D × List Prop) :=
 match k, l with
 | 1, [.v (.int .i64 n)] => some (.ints [n], [])
 | 2, [.v (.bool b)] => some (.bools [b], [])
 | 3, [.v (.int .u8 n)] => some (.bytes [UInt8.ofNat n.toNat], [0 ≤ n, n < 256])
 | 4, [.v (.string s)] => some (.strs [s], [])
 | 5, [.v (.int .i64 o), .v (.int .i64 a), .v (.int .i64 b), .v (.int .i64 c), .v (.int .i64 d)] => some (.instrs [⟨o, a, b, c, d⟩], [])
 | 6, [.v (.int .i64 a), .v (.int .i64 b)] => some (.events [(a, b)], [])
 | 7, [x] => match aZ8 S 1 x with
  | some (.ints l) => some (.rows [l], [])
  | _ => none
 | 8, [x] => match aZ8 S 2 x with
  | some (.bools l) => some (.brows [l], [])
  | _ => none
 | 9, [.v (.int .i64 a), .v (.int .i64 b), x] => match aZ8 S 9 x with
  | some (.exprs l) => some (.exprs [⟨a, b, l⟩], [])
  | _ => none
 | 10, [.v (.int .i64 a), .v (.int .i64 b), .v (.int .i64 c), .v (.int .i64 d), x, .v (.int .i64 e), .v (.int .i64 f), y, .v (.int .i64 g), z, u] =>
  match aZ8 S 9 x, aZ8 S 9 y, aZ8 S 10 z, aZ8 S 10 u with
  | some (.exprs x), some (.exprs y), some (.stmts z), some (.stmts u) => some (.stmts [⟨a, b, ⟨c, d, x⟩, ⟨e, f, y⟩, g, z, u⟩], [])
  | _, _, _, _ => none
 | _, _ => none
def D.app : D → D → Option D
 | .ints a, .ints b => some (.ints (a ++ b))
 | .bools a, .bools b => some (.bools (a ++ b))
 | .bytes a, .bytes b => some (.bytes (a ++ b))
 | .strs a, .strs b => some (.strs (a ++ b))
 | .instrs a, .instrs b => some (.instrs (a ++ b))
 | .events a, .events b => some (.events (a ++ b))
 | .rows a, .rows b => some (.rows (a ++ b))
 | .brows a, .brows b => some (.brows (a ++ b))
 | .exprs a, .exprs b => some (.exprs (a ++ b))
 | .stmts a, .stmts b => some (.stmts (a ++ b))
 | _, _ => none
theorem bD8 {α : Type} (a b : List α) (z : α) (i : Nat) : (a ++ b).getD i z = if i < a.length then a.getD i z else b.getD (i - a.length) z := by
 split
 ·rename_i h; simp [b90, cb9 h]
 ·rename_i h; simp [b90, cc9 (Nat.le_of_not_lt h)]
theorem N8 {α : Type} (f : α → List X) (a b : List α) (z : α) (i : Nat) : f ((a ++ b).getD i z) = if i < a.length then f (a.getD i z) else f (b.getD (i - a.length) z) := by rw [bD8]; split <;> rfl
theorem D.app_ok {a b d : D} (h : a.app b = some d) : d.len = a.len + b.len ∧ d.sz = a.sz ∧ b.sz = a.sz ∧ ∀ i, d.elem i = if i < a.len then a.elem i else b.elem (i - a.len) := by
 cases a <;> cases b <;> simp only [D.app] at h <;> first | cases h | skip
 ·exact ⟨by simp [D.len], rfl, rfl, fun i => N8 (fun x => [.v (.int .i64 x)]) _ _ _ _⟩
 ·exact ⟨by simp [D.len], rfl, rfl, fun i => N8 (fun x => [.v (.bool x)]) _ _ _ _⟩
 ·exact ⟨by simp [D.len], rfl, rfl, fun i => N8 (fun x : UInt8 => [.v (.int .u8 (x.toNat : Int))]) _ _ _ _⟩
 ·exact ⟨by simp [D.len], rfl, rfl, fun i => N8 (fun x => [.v (.string x)]) _ _ _ _⟩
 ·exact ⟨by simp [D.len], rfl, rfl, fun i => N8 bf5 _ _ _ _⟩
 ·exact ⟨by simp [D.len], rfl, rfl, fun i => N8 ar7 _ _ _ _⟩
 ·exact ⟨by simp [D.len], rfl, rfl, fun i => N8 (fun x => [.sl (.ints x)]) _ _ _ _⟩
 ·exact ⟨by simp [D.len], rfl, rfl, fun i => N8 (fun x => [.sl (.bools x)]) _ _ _ _⟩
 ·exact ⟨by simp [D.len], rfl, rfl, fun i => N8 aN7 _ _ _ _⟩
 ·exact ⟨by simp [D.len], rfl, rfl, fun i => N8 aI9 _ _ _ _⟩
section
variable {P : Program} {ι : Type} {φ ψ : Nat → Prop} {w0 w w' : World} {F : ι → Rs} {ρ : Nat → Value} {S : Nat → It}
theorem RW.append {φ : Nat → Prop} {a b d : D} {xs ys : List Value} (h : a.app b = some d) (hl : xs.length = a.len * a.sz) (hx : RW w φ a xs) (hy : RW w φ b ys) : RW w φ d (xs ++ ys) := by
 obtain ⟨h1, h2, h3, h4⟩ := D.app_ok h
 intro i hi j x hj
 rw [h4] at hj
 rw [h2]
 split at hj
 ·rename_i hlt
  obtain ⟨u, k1, k2⟩ := hx i hlt j x hj
  refine ⟨u, ?_, k2⟩
  rw [cb9 ((b96.1 k1).1)]; exact k1
 ·rename_i hge
  obtain ⟨u, k1, k2⟩ := hy (i - a.len) (by omega) j x hj
  refine ⟨u, ?_, k2⟩
  have e : i * a.sz + j = xs.length + ((i - a.len) * a.sz + j) := by
   rw [hl, ← Nat.add_assoc, ← Nat.add_mul]
   congr 2; omega
  rw [e, cc9 (by omega), Nat.add_sub_cancel_left, ← k1, h3]
theorem RW.nil {φ : Nat → Prop} {d : D} (h : d.len = 0) (xs : List Value) : RW w φ d xs := fun i hi => by omega
theorem RD.nil {φ : Nat → Prop} {k : Nat} {d : D} (h : D.nil k = some d) : RD w φ d (.slice none 0 0) := by
 have hl := D.nil_len h
 refine RD.make (xs := []) ?_ (RW.nil hl _)
 rw [hl]; exact z8.nil _ _ _
theorem ah0 (M : n6 φ ψ w0 w (t4 F ρ S)) {k : Nat} {x : AV} {d : D} (h : aZ8 S k x = some d) : RD w (FrF φ (t4 F ρ S)) d (x.val ρ) := by
 unfold aZ8 at h
 split at h <;> first | cases h | skip
 ·split at h <;> first | cases h | skip
  rename_i id _ hS
  exact M.datAt hS
 ·exact RD.nil h
theorem ac6 {φ : Nat → Prop} {d : D} {xs : List Value} (hl : d.len = 1) (h : ∀ (j : Nat) x, (d.elem 0)[j]? = some x → ∃ u, xs[j]? = some u ∧ XH w φ x u) : RW w φ d xs := by
 intro i hi j x hj
 have : i = 0 := by omega
 subst this
 rw [Nat.zero_mul, cc3]; exact h j x hj
theorem x9 {φ : Nat → Prop} {x : X} {r : List X} {u : Value} {s : List Value} (h : XH w φ x u) (hr : ∀ (j : Nat) y, r[j]? = some y → ∃ v, s[j]? = some v ∧ XH w φ y v) : ∀ (j : Nat) y, (x :: r)[j]? = some y → ∃ v, (u :: s)[j]? = some v ∧ XH w φ y v := by
 intro j y hj
 cases j with
 | zero => simp at hj; subst hj; exact ⟨u, rfl, h⟩
 | succ j => simpa using hr j y (by simpa using hj)
theorem ac4 {φ : Nat → Prop} {s : List Value} : ∀ (j : Nat) y, ([] : List X)[j]? = some y → ∃ v, s[j]? = some v ∧ XH w φ y v := by intro j y h; simp at h
theorem bL0 (M : n6 φ ψ w0 w (t4 F ρ S)) {k : Nat} {l : List AV} {d : D} {obs : List Prop} (h : bT5 S k l = some (d, obs)) (ho : w9 obs) : d.len = 1 ∧ d.sz = l.length ∧ RW w (FrF φ (t4 F ρ S)) d (AV.vals ρ l) := by
 unfold bT5 at h
 split at h <;> first | cases h | skip
 ·exact ⟨rfl, rfl, ac6 rfl (x9 rfl ac4)⟩
 ·exact ⟨rfl, rfl, ac6 rfl (x9 rfl ac4)⟩
 ·rename_i n
  simp only [w9] at ho
  refine ⟨rfl, rfl, ac6 rfl (x9 ?_ ac4)⟩
  show Value.int .u8 n = Value.int .u8 ((UInt8.ofNat n.toNat).toNat : Int)
  congr 1
  have : (UInt8.ofNat n.toNat).toNat = n.toNat := by simp [UInt8.toNat_ofNat']; omega
  rw [this]; omega
 ·exact ⟨rfl, rfl, ac6 rfl (x9 rfl ac4)⟩
 ·exact ⟨rfl, rfl, ac6 rfl (x9 rfl (x9 rfl (x9 rfl (x9 rfl (x9 rfl ac4)))))⟩
 ·exact ⟨rfl, rfl, ac6 rfl (x9 rfl (x9 rfl ac4))⟩
 ·split at h <;> first | cases h | skip
  rename_i hx
  exact ⟨rfl, rfl, ac6 rfl (x9 (ah0 M hx) ac4)⟩
 ·split at h <;> first | cases h | skip
  rename_i hx
  exact ⟨rfl, rfl, ac6 rfl (x9 (ah0 M hx) ac4)⟩
 ·split at h <;> first | cases h | skip
  rename_i hx
  exact ⟨rfl, rfl, ac6 rfl (x9 rfl (x9 rfl (x9 (ah0 M hx) ac4)))⟩
 ·split at h <;> first | cases h | skip
  rename_i hx hy hz hu
  exact ⟨rfl, rfl, ac6 rfl (x9 rfl (x9 rfl (x9 rfl (x9 rfl (x9 (ah0 M hx) (x9 rfl (x9 rfl (x9 (ah0 M hy) (x9 rfl (x9 (ah0 M hz) (x9 (ah0 M hu) ac4)))))))))))⟩
def aT5 (S : Nat → It) (k : Nat) : List (List AV) → Option (D × List Prop)
 | [] => (D.nil k).map fun d => (d, [])
 | c :: r =>
  match bT5 S k c, aT5 S k r with
  | some (a, oa), some (b, ob) => (a.app b).map fun d => (d, oa ++ ob)
  | _, _ => none
theorem a54 (M : n6 φ ψ w0 w (t4 F ρ S)) {k n : Nat} : ∀ {l : List (List AV)} {d : D} {obs : List Prop}, aT5 S k l = some (d, obs) → w9 obs → (∀ c ∈ l, c.length = n) → d.len = l.length ∧ (l = [] ∨ d.sz = n) ∧ RW w (FrF φ (t4 F ρ S)) d (AV.vals ρ l.flatten)
 | [], d, obs, h, _, _ => by
  simp only [aT5, b92] at h
  obtain ⟨d', h1, h2⟩ := h
  cases h2
  exact ⟨D.nil_len h1, .inl rfl, RW.nil (D.nil_len h1) _⟩
 | c :: r, d, obs, h, ho, hn => by
  simp only [aT5] at h
  split at h
  case h_2 => cases h
  rename_i a oa b ob h1 h2
  obtain ⟨d', h3, h4⟩ := b92.1 h
  cases h4
  rw [w9.append] at ho
  obtain ⟨k1, k2, k3⟩ := bL0 M h1 ho.1
  obtain ⟨m1, m2, m3⟩ := a54 M h2 ho.2 fun c hc => hn c (ca9 _ hc)
  obtain ⟨q1, q2, q3, q4⟩ := D.app_ok h3
  have hc := hn c ca6
  refine ⟨by simp; omega, .inr (by rw [q2, k2, hc]), ?_⟩
  rw [List.flatten_cons, AV.vals_append]
  exact RW.append h3 (by rw [AV.vals_length, k1, Nat.one_mul, k2]) k3 m3
def af9 (e : Operand → Option AV) (S : Nat → It) (n : Nat) : Nat → List (Nat × Operand) → Option (List (List AV))
 | _, [] => some []
 | k, (i, x) :: r =>
  match e x with
  | some v => if i = k && v.cells.length = n && aD3 S v then (af9 e S n (k + 1) r).map fun l => v.cells :: l else none
  | none => none
theorem aq8 {e : Operand → Option AV} {n : Nat} : ∀ {ps : List (Nat × Operand)} {k : Nat} {l : List (List AV)}, af9 e S n k ps = some l → l.length = ps.length ∧ ∀ c ∈ l, c.length = n
 | [], k, l, h => by simp only [af9, Option.some.injEq] at h; subst h; exact ⟨rfl, fun c hc => by cases hc⟩
 | (i, x) :: r, k, l, h => by
  simp only [af9] at h
  split at h
  case h_2 => cases h
  rename_i v hv
  split at h
  case isFalse => cases h
  rename_i hc
  obtain ⟨m, h1, h2⟩ := b92.1 h
  subst h2
  obtain ⟨k1, k2⟩ := aq8 h1
  simp only [b85, decide_eq_true_eq] at hc
  refine ⟨by simp [k1], fun c hc' => ?_⟩
  rcases cb7.1 hc' with rfl | hc'
  ·exact hc.1.2
  ·exact k2 c hc'
theorem a34 : ∀ (us a b : List Value) (p : Nat), a.length = p → us.length ≤ b.length → setFrom (a ++ b) p us = a ++ (us ++ b.drop us.length)
 | us, a, b, p, h, hl => by
  subst h
  rw [Z3 _ _ _ (by simp; omega)]
  simp [List.drop_append]
theorem ak4 (M : n6 φ ψ w0 w (t4 F ρ S)) {e : Operand → Option AV} {g : Operand → Value} {n : Nat} : ∀ (ps : List (Nat × Operand)) (k : Nat) (l : List (List AV)) (pre suf : List Value), af9 e S n k ps = some l → (∀ p ∈ ps, ∀ v, e p.2 = some v → g p.2 = v.val ρ) → pre.length = k * n → suf.length = ps.length * n →
  Instr.fill (fun i => some (i * n, n)) (pre ++ suf).toArray (ps.map fun p => (p.1, g p.2)) = some (pre ++ AV.vals ρ l.flatten).toArray
 | [], k, l, pre, suf, h, _, _, hs => by
  simp only [af9, Option.some.injEq] at h; subst h
  have : suf = [] := ca3 (by simpa using hs)
  subst this
  simp [Instr.fill, AV.vals]
 | (i, x) :: r, k, l, pre, suf, h, hg, hp, hs => by
  simp only [af9] at h
  split at h
  case h_2 => cases h
  rename_i v hv
  split at h
  case isFalse => cases h
  rename_i hc
  obtain ⟨m, h1, h2⟩ := b92.1 h
  subst h2
  simp only [b85, decide_eq_true_eq] at hc
  obtain ⟨⟨rfl, hn⟩, hok⟩ := hc
  obtain ⟨c1, _⟩ := Z6 M hok
  have hvl : (AV.vals ρ v.cells).length = n := by rw [AV.vals_length, hn]
  have hgx := hg (i, x) ca6 v hv
  simp only at hgx
  simp only [b84, cc1] at hs
  simp only [cc2, Instr.fill]
  rw [hgx, c1]
  have hz := aG2 (AV.vals ρ v.cells) 0 (i * n) (pre ++ suf).toArray
  simp only [cc8] at hz
  rw [a34 _ _ _ _ hp (by omega)] at hz
  have ih := ak4 M r (i + 1) m (pre ++ AV.vals ρ v.cells) (suf.drop n) h1 (fun p hp' => hg p (ca9 _ hp')) (by rw [b83, hp, hvl, cc1]) (by rw [List.length_drop]; omega)
  rw [List.flatten_cons, AV.vals_append, ← cc0, ← ih]
  simp only [List.size_toArray, hvl, b83]
  rw [if_neg (by simp; omega)]
  congr 1
  rw [cc0]
  rw [hvl] at hz
  rw [← hz]
  simp [Array.zipIdx, ← Array.foldl_toList, List.mapIdx_eq_zipIdx_map]
theorem n6.newRow (M : n6 φ ψ w0 w (t4 F ρ S)) {id : Nat} {e : TypeId} {d : D} {v : Value} {xs : List Value} (hb : Below w.heap.size w w') (hS : S id = .none) (hi : Inv S ρ [id]) (ho : w'.ownsRow w.heap.size e d.sz v d.len xs) (hx : RW w (FrF φ (t4 F ρ S)) d xs) :
  ∃ ρ', D7 [id] ρ ρ' ∧ n6 φ ψ w0 w' (t4 F ρ' (s7 S [(id, .row e d)])) ∧ v = ρ' id := by
 have ha : D7 [id] ρ (fun j => if j = id then v else ρ j) := fun j hj => by
  have : j ≠ id := by simpa using hj
  simp [this]
 refine ⟨_, ha, M.one id _ [id] hi ha (D8.any hb) (fun g hg => ?_) ?_, by simp⟩
 ·simp only [It.res, if_true] at hg
  exact .inr (ho.lt g hg).1
 ·simp only [It.res, if_true]
  refine ⟨fun xs => RW.nice d xs, xs, M5 ho (cb1 _), ?_⟩
  refine RW.nice d xs _ _ _ _ ⟨hb.size, fun b hbl hf => ⟨⟨hf.1, fun k hk => ?_⟩, hb.block b hbl⟩⟩ hx
  cases k with
  | inl i => exact hf.2 (.inl i) hk
  | inr j =>
   by_cases e' : j = id
   ·subst e'
    simp only [t4, s7, if_true, It.res] at hk
    have := (ho.lt b hk).1; omega
   ·simp only [t4, s7, if_neg e'] at hk
    rw [hi _ ha j] at hk
    exact hf.2 (.inr j) hk
end
end Go.Proofs.YthikdkjjdeehoaaGreat
