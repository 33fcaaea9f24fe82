/-
  Texts of this claim, part 1: what the functions on the way do, and plain laws. Conditions: as each statement says.
-/
import Derived.WalkKit
import Derived.ProofKit
import Derived.Handy
import Derived.WalkSmall
import Derived.Deep.QuietTactic
import Derived.BigQuiet
import Derived.StillTailTactics
import Derived.Test.YthikdkjjdeehoaaGreatRows
import Derived.OpenShut
import Derived.ChangeOld
import Derived.Deep.Slices
import Derived.Lib.SmallJoins
import Derived.Deep.Quiet
import Derived.StillTail
import Derived.Maps.AppendAt
import Derived.ArgAppend
import Derived.Deep.Upon
import Derived.Laws.Small
set_option maxRecDepth 100000
set_option maxHeartbeats 16000000
open Bool renaming and_eq_true → bE9
open Inhabited renaming default → bE8
open List renaming all_eq_true → bG1, eq_nil_of_length_eq_zero → bI1, getElem?_append_left → bG9, getElem?_append_right → bH8, getElem?_eq_getElem → bF1, getElem?_eq_none → bG7, getElem?_eq_some_iff → bG0, getElem_mem → bG5, length_append → bF2, length_cons → bF0, map_cons → bI2, mem_append → bH6, mem_cons → bI7, mem_cons_of_mem → bH2, mem_cons_self → bG8, mem_of_getElem? → bG4, mem_singleton → bH9, range → bG6, replicate → bI4, take_of_length_le → bF8
open Nat renaming le_refl → bF7, le_trans → bH0, lt_of_lt_of_le → bH5, lt_or_ge → bI0, mul_le_mul_right → bI3, succ_mul → bH7, zero_add → bI5, zero_le → bH1
open Option renaming isSome_iff_exists → bI6, map_eq_some_iff → bF6
open True renaming intro → bF3

namespace Go.Proofs.YthikdkjjdeehoaaGreat
set_option linter.unusedVariables false
set_option linter.unusedSimpArgs false
open Go Go.RowKit
def Q8 (w : World) (v : Value) (n sz : Nat) (xs : List Value) : Prop :=
 xs.length = n * sz ∧ ∃ a cap, v = .slice a n cap ∧ n ≤ cap ∧ cap ≤ maxLen ∧
  (0 < n → ∃ b off, a = some ⟨b, off, none⟩ ∧ b < w.heap.size ∧ ∀ j u, xs[j]? = some u → w.cell? ⟨b, off + j, none⟩ = some u)
theorem T9 {W w1 : World} (hb : Below W.heap.size W w1) : (∀ b o, b < W.heap.size → w1.cell? ⟨b, o, none⟩ = W.cell? ⟨b, o, none⟩) ∧ (∀ b o, b < W.heap.size → w1.frozen? ⟨b, o, none⟩ = W.frozen? ⟨b, o, none⟩) :=
 ⟨fun b o h => hb.cell (p := ⟨b, o, none⟩) h, fun b o h => hb.frozen (p := ⟨b, o, none⟩) h⟩
theorem Q8.below {w w' : World} {v : Value} {n sz : Nat} {xs : List Value} (h : Q8 w v n sz xs) (hb : Below w.heap.size w w') : Q8 w' v n sz xs := by
 obtain ⟨hl, a, cap, rfl, h1, h2, h3⟩ := h
 refine ⟨hl, a, cap, rfl, h1, h2, fun hn => ?_⟩
 obtain ⟨b, off, rfl, hbk, hc⟩ := h3 hn
 exact ⟨b, off, rfl, bH5 hbk hb.size, fun j u hj => ((T9 hb).1 b _ hbk).trans (hc j u hj)⟩
theorem Q8.len {w : World} {v : Value} {n sz : Nat} {xs : List Value} (h : Q8 w v n sz xs) : n ≤ 9223372036854775807 := by
 obtain ⟨_, a, cap, rfl, h1, h2, _⟩ := h; unfold maxLen at h2; omega
theorem Q8.nil (w : World) (sz : Nat) : Q8 w (.slice none 0 0) 0 sz [] := ⟨by simp, none, 0, rfl, bF7 _, by unfold maxLen; omega, fun h => absurd h (by omega)⟩
theorem Q8.open {w : World} {v : Value} {n sz : Nat} {xs : List Value} (h : Q8 w v n sz xs) : ∃ a cap, v = .slice a n cap ∧ n ≤ cap ∧ n ≤ 9223372036854775807 ∧ cap ≤ 9223372036854775807 ∧
  ∀ i, i < n → ∃ b off, a = some ⟨b, off, none⟩ ∧ b < w.heap.size ∧ ∀ j, j < sz → w.cell? ⟨b, off + i * sz + j, none⟩ = xs[i * sz + j]? := by
 obtain ⟨hl, a, cap, rfl, h1, h2, h3⟩ := h
 unfold maxLen at h2
 refine ⟨a, cap, rfl, h1, by omega, by omega, fun i hi => ?_⟩
 obtain ⟨b, off, rfl, hbk, hc⟩ := h3 (by omega)
 refine ⟨b, off, rfl, hbk, fun j hj => ?_⟩
 have hlt : i * sz + j < xs.length := by
  rw [hl]; have := bI3 sz (Nat.succ_le_of_lt hi); rw [bH7] at this; omega
 rw [bF1 hlt, Nat.add_assoc]
 exact hc _ _ (bF1 hlt)
theorem Q8.form {w : World} {v : Value} {n sz : Nat} {xs : List Value} (h : Q8 w v n sz xs) : ∃ a cap, v = .slice a n cap := by
 obtain ⟨_, a, cap, hv, _⟩ := h
 exact ⟨a, cap, hv⟩
theorem Q8.open1 {w : World} {v : Value} {n : Nat} {xs : List Value} (h : Q8 w v n 1 xs) : ∃ a cap, v = .slice a n cap ∧ n ≤ cap ∧ n ≤ 9223372036854775807 ∧ cap ≤ 9223372036854775807 ∧
  ∀ i, i < n → ∃ b off, a = some ⟨b, off, none⟩ ∧ b < w.heap.size ∧ w.cell? ⟨b, off + i, none⟩ = xs[i]? := by
 obtain ⟨a, cap, h0, h1, h2, h3, h4⟩ := h.open
 refine ⟨a, cap, h0, h1, h2, h3, fun i hi => ?_⟩
 obtain ⟨b, off, e, hb, hc⟩ := h4 i hi
 exact ⟨b, off, e, hb, by simpa using hc 0 (by omega)⟩
theorem X5 {w : World} {base : Nat} {e : TypeId} {sz : Nat} {v : Value} {n : Nat} {xs : List Value} (h : w.ownsRow base e sz v n xs) : Q8 w v n sz xs := by
 refine ⟨h.1, ?_⟩
 rcases h.2 with ⟨rfl, rfl⟩ | ⟨g, cap, cur, rfl, hbg, hg, hnc, hcm, hcs, ht⟩
 ·exact ⟨none, 0, rfl, bF7 _, by unfold maxLen; omega, fun h => absurd h (by omega)⟩
 ·refine ⟨some ⟨g, 0, none⟩, cap, rfl, hnc, hcm, fun _ => ⟨g, 0, rfl, (Array.getElem?_eq_some_iff.1 hg).1, fun j u hj => ?_⟩⟩
  have hadd : (⟨g, 0, none⟩ : Addr).add j = ⟨g, 0 + j, none⟩ := by unfold Addr.add; split <;> simp_all
  rw [← hadd]
  exact h.cells (g := g) rfl j u hj
theorem I7 {w : World} {base base' : Nat} {e : TypeId} {sz : Nat} {v : Value} {n : Nat} {xs : List Value} (h : w.ownsRow base e sz v n xs) (hb : base' ≤ base) : w.ownsRow base' e sz v n xs := by
 refine ⟨h.1, ?_⟩
 rcases h.2 with hn | ⟨g, cap, cur, rfl, hbg, r⟩
 ·exact .inl hn
 ·exact .inr ⟨g, cap, cur, rfl, by omega, r⟩
def Q3 (w : World) (lo hi : Nat) (e : TypeId) (sz : Nat) (v : Value) (n : Nat) (xs : List Value) : Prop :=
 w.ownsRow lo e sz v n xs ∧ ∀ g, v.ownBlock = some g → g < hi
structure Out (lo hi : Nat) (w w' : World) : Prop where
 os : w'.os = w.os
 tape : w'.tape = w.tape
 output : w'.output = w.output
 size : w.heap.size ≤ w'.heap.size
 block : ∀ k, k < w.heap.size → (k < lo ∨ hi ≤ k) → w'.heap[k]? = w.heap[k]?
theorem Out.refl (lo hi : Nat) (w : World) : Out lo hi w w := ⟨rfl, rfl, rfl, bF7 _, fun _ _ _ => rfl⟩
theorem Out.trans {lo hi : Nat} {a b c : World} (h : Out lo hi a b) (k : Out lo hi b c) : Out lo hi a c :=
 ⟨k.os.trans h.os, k.tape.trans h.tape, k.output.trans h.output, bH0 h.size k.size, fun i hi ho => (k.block i (bH5 hi h.size) ho).trans (h.block i hi ho)⟩
theorem Out.wide {lo hi lo' hi' : Nat} {a b : World} (h : Out lo hi a b) (h1 : lo' ≤ lo) (h2 : hi ≤ hi') : Out lo' hi' a b :=
 ⟨h.os, h.tape, h.output, h.size, fun k hk ho => h.block k hk (by omega)⟩
theorem Out.below {lo hi B : Nat} {a b : World} (h : Out lo hi a b) (h1 : B ≤ lo) (h2 : B ≤ a.heap.size) : Below B a b :=
 ⟨h.os, h.tape, h.output, h.size, fun k hk => h.block k (by omega) (by omega)⟩
theorem Out.of_below {lo hi B : Nat} {a b : World} (h : Below B a b) (h1 : a.heap.size ≤ B) : Out lo hi a b :=
 ⟨h.os, h.tape, h.output, h.size, fun k hk _ => h.block k (by omega)⟩
theorem Out.setCell {lo hi : Nat} {a w : World} (h : Out lo hi a w) {p : Addr} (h1 : lo ≤ p.block) (h2 : p.block < hi) (u : Value) : Out lo hi a (w.setCell p u) :=
 h.trans ⟨rfl, rfl, rfl, by simp [World.setCell], fun k _ ho => Below.heap_setCell _ _ _ _ (by omega)⟩
theorem Q3.lt {w : World} {lo hi : Nat} {e : TypeId} {sz : Nat} {v : Value} {n : Nat} {xs : List Value} (h : Q3 w lo hi e sz v n xs) : ∀ g, v.ownBlock = some g → lo ≤ g ∧ g < hi ∧ g < w.heap.size :=
 fun g hg => ⟨(h.1.lt g hg).1, h.2 g hg, (h.1.lt g hg).2⟩
theorem Q3.row {w : World} {lo hi : Nat} {e : TypeId} {sz : Nat} {v : Value} {n : Nat} {xs : List Value} (h : Q3 w lo hi e sz v n xs) : Q8 w v n sz xs := X5 h.1
theorem Q3.mk' {w : World} {lo : Nat} {e : TypeId} {sz : Nat} {v : Value} {n : Nat} {xs : List Value} (h : w.ownsRow lo e sz v n xs) : Q3 w lo w.heap.size e sz v n xs :=
 ⟨h, fun g hg => (h.lt g hg).2⟩
theorem Q3.wide {w : World} {lo hi lo' hi' : Nat} {e : TypeId} {sz : Nat} {v : Value} {n : Nat} {xs : List Value} (h : Q3 w lo hi e sz v n xs) (h1 : lo' ≤ lo) (h2 : hi ≤ hi') : Q3 w lo' hi' e sz v n xs :=
 ⟨I7 h.1 h1, fun g hg => bH5 (h.2 g hg) h2⟩
theorem Q3.form {w : World} {lo hi : Nat} {e : TypeId} {sz : Nat} {v : Value} {n : Nat} {xs : List Value} (h : Q3 w lo hi e sz v n xs) : ∃ a cap, v = .slice a n cap := by
 obtain ⟨_, a, cap, hv, _⟩ := h.row
 exact ⟨a, cap, hv⟩
theorem Q3.same {w w' : World} {lo hi : Nat} {e : TypeId} {sz : Nat} {v : Value} {n : Nat} {xs : List Value} (h : Q3 w lo hi e sz v n xs)
  (hs : ∀ g, v.ownBlock = some g → w'.heap[g]? = w.heap[g]?) : Q3 w' lo hi e sz v n xs := by
 refine ⟨⟨h.1.1, ?_⟩, h.2⟩
 rcases h.1.2 with hn | ⟨g, cap, cur, rfl, hbg, hg, r⟩
 ·exact .inl hn
 ·exact .inr ⟨g, cap, cur, rfl, hbg, (hs g rfl).trans hg, r⟩
theorem Q3.keep {w w' : World} {lo hi B : Nat} {e : TypeId} {sz : Nat} {v : Value} {n : Nat} {xs : List Value} (h : Q3 w lo hi e sz v n xs) (hb : Below B w w') (hB : hi ≤ B) : Q3 w' lo hi e sz v n xs :=
 h.same fun g hg => hb.block g (by have := h.lt g hg; omega)
theorem Q3.out {w w' : World} {lo hi lo' hi' : Nat} {e : TypeId} {sz : Nat} {v : Value} {n : Nat} {xs : List Value} (h : Q3 w lo hi e sz v n xs) (ho : Out lo' hi' w w') (hd : hi ≤ lo' ∨ hi' ≤ lo) : Q3 w' lo hi e sz v n xs :=
 h.same fun g hg => ho.block g (h.lt g hg).2.2 (by have := h.lt g hg; omega)
theorem Q3.open {w : World} {lo hi : Nat} {e : TypeId} {sz : Nat} {v : Value} {n : Nat} {xs : List Value} (h : Q3 w lo hi e sz v n xs) (hn : 0 < n) :
  ∃ g cap, v = .slice (some ⟨g, 0, none⟩) n cap ∧ lo ≤ g ∧ g < hi ∧ g < w.heap.size ∧ n ≤ cap ∧ cap ≤ maxLen ∧ (∀ o, w.frozen? ⟨g, o, none⟩ = false) ∧ ∀ j u, xs[j]? = some u → w.cell? ⟨g, j, none⟩ = some u := by
 have hl := h.lt
 rcases h.1.2 with ⟨_, h0⟩ | ⟨g, cap, cur, rfl, hbg, hg, hnc, hcm, hcs, ht⟩
 ·omega
 ·obtain ⟨l1, l2, l3⟩ := hl g rfl
  refine ⟨g, cap, rfl, l1, l2, l3, hnc, hcm, fun o => ?_, fun j u hj => ?_⟩
  ·simp only [World.frozen?, hg]; simp
  ·have hadd : (⟨g, 0, none⟩ : Addr).add j = ⟨g, j, none⟩ := by unfold Addr.add; split <;> simp_all
   rw [← hadd]
   exact h.1.cells (g := g) rfl j u hj
theorem Q3.at {w : World} {lo hi : Nat} {e : TypeId} {sz : Nat} {v : Value} {n : Nat} {xs : List Value} (h : Q3 w lo hi e sz v n xs) {j : Nat} (hj : j < xs.length) :
  ∃ g cap, v = .slice (some ⟨g, 0, none⟩) n cap ∧ lo ≤ g ∧ g < hi ∧ g < w.heap.size ∧ w.frozen? ⟨g, j, none⟩ = false ∧ ∃ u, w.cell? ⟨g, j, none⟩ = some u := by
 have hn : 0 < n := by
  rcases Nat.eq_zero_or_pos n with h0 | h0
  ·subst h0; have := h.1.1; omega
  ·exact h0
 obtain ⟨g, cap, hv, h1, h2, h3, _, _, h4, h5⟩ := h.open hn
 exact ⟨g, cap, hv, h1, h2, h3, h4 j, _, h5 j _ (bF1 hj)⟩
theorem Q3.setCell {w : World} {lo hi : Nat} {e : TypeId} {sz : Nat} {n cap g : Nat} {xs : List Value} (h : Q3 w lo hi e sz (.slice (some ⟨g, 0, none⟩) n cap) n xs) {j : Nat} (_hj : j < xs.length) (u : Value) :
  Q3 (w.setCell ⟨g, j, none⟩ u) lo hi e sz (.slice (some ⟨g, 0, none⟩) n cap) n (xs.set j u) := by
 refine ⟨⟨by rw [List.length_set]; exact h.1.1, ?_⟩, h.2⟩
 rcases h.1.2 with ⟨hv, _⟩ | ⟨g', cap', cur, hv, hbg, hg, hnc, hcm, hcs, ht⟩
 ·cases hv
 ·cases hv
  refine .inr ⟨g, cap, cur.setIfInBounds j u, rfl, hbg, ?_, hnc, hcm, by simpa using hcs, ?_⟩
  ·have hlt := (Array.getElem?_eq_some_iff.1 hg).1
   simp only [World.setCell, Array.getElem?_modify]
   simp [hg]
  ·rw [Array.toList_setIfInBounds, List.take_set, ht]
theorem k6 {a b : Bool} (h : a = b) : Ending.returned (.bool a) = .returned (.bool b) := by rw [h]
theorem w6 {k : IntKind} {a b : Int} (h : a = b) : Ending.returned (.int k a) = .returned (.int k b) := by rw [h]
def J1 (m : Int) (n : Nat) : Int := if m < n then -1 else m - n
theorem w7 {m : Int} {n : Nat} (h : m < n) : J1 m n = -1 := if_pos h
theorem E0 {m : Int} {n : Nat} (h : ¬ m < n) : J1 m n = m - n := if_neg h
theorem p7 {α : Type} (l : List α) (k : Nat) (h : k < l.length) : l.take (k + 1) = l.take k ++ [l[k]] := by
 rw [List.take_succ_eq_append_getElem h]
theorem ad2 {α : Type} {xs ys : List α} {k : Nat} (h : xs.take k = ys.take k) (h1 : k < xs.length) (h2 : k < ys.length) (he : xs[k] = ys[k]) : xs.take (k + 1) = ys.take (k + 1) := by
 rw [p7 _ _ h1, p7 _ _ h2, h, he]
theorem T2 {α : Type} {xs ys : List α} {k : Nat} (h : xs.take k = ys.take k) (h1 : xs.length ≤ k) (h2 : ys.length ≤ k) : xs = ys := by
 rw [bF8 h1, bF8 h2] at h; exact h
theorem S8 {α : Type} (ys : List α) (k : Nat) (u : α) (h : k < ys.length) : (ys.set k u).take (k + 1) = ys.take k ++ [u] := by
 rw [p7 _ _ (by simpa using h), List.take_set_of_le (bF7 _)]; simp
def H1 (z : List Value) (n : Nat) : List Value := (bI4 n z).flatten
theorem O9 (z : List Value) (n : Nat) : (H1 z n).length = n * z.length := by simp [H1]
theorem aw0 (z : Value) (n : Nat) : H1 [z] n = bI4 n z := by
 unfold H1
 induction n with
 | zero => rfl
 | succ n ih => rw [List.replicate_succ, List.flatten_cons, ih]; rfl
theorem aD2 (z : Array Value) (n : Nat) (_hz : 0 < z.size) : madeCells z (n * z.size) = (H1 z.toList n).toArray := by
 apply Array.ext
 ·simp [size_madeCells, O9]
 ·intro i h1 h2
  simp only [madeCells, Array.getElem_map, Array.getElem_range, List.getElem_toArray]
  have hlt : i < (H1 z.toList n).length := by simpa using h2
  have key : ∀ (m i : Nat), i < (H1 z.toList m).length → (H1 z.toList m)[i]? = some (z[i % z.size]!) := by
   intro m
   induction m with
   | zero => intro i hi; simp [H1] at hi
   | succ m ih =>
    intro i hi
    have e : H1 z.toList (m + 1) = z.toList ++ H1 z.toList m := by simp [H1, List.replicate_succ]
    rw [e]
    by_cases hlt : i < z.size
    ·rw [bG9 (by simpa using hlt), Nat.mod_eq_of_lt hlt]
     simp [hlt]
    ·rw [bH8 (by simp; omega)]
     have := ih (i - z.toList.length) (by rw [e, bF2] at hi; rw [Array.length_toList] at hi ⊢; omega)
     rw [this]
     congr 2
     rw [Array.length_toList]
     exact (Nat.mod_eq_sub_mod (by omega)).symm
  have := key n i hlt
  rw [bF1 hlt] at this
  exact (Option.some.inj this).symm
theorem aq4 {P : Program} {t e : TypeId} {z : Value} {size bytes : Nat} (ht : P.underlying t = some (.slice e)) (hi : (P.info? e).map (fun i => (i.zero, i.size, i.bytes)) = some (some z, size, bytes))
  (hz : z.cells.size = size) (hs : 0 < size) (n : Nat) (hn : bytes * n ≤ 281474976710656) (hm : n ≤ 9223372036854775807) :
  ∀ w, (Instr.makeSlice t (.int .i64 n) (.int .i64 n)).run P w = .ok (.slice (some ⟨w.heap.size, 0, none⟩) n n) (w.alloc (.cells (H1 z.cells.toList n).toArray e)) := by
 intro w
 obtain ⟨i, h1, h2, h3, h4⟩ := info_parts hi
 have := run_make (P := P) w t e i z ht h1 h2 .i64 .i64 n n (by omega) (Int.le_refl _) (by rw [h4, ← Int.natCast_mul]; omega) (by omega)
 rw [this]
 simp only [Int.toNat_natCast, h3]
 subst hz
 rw [aD2 _ _ hs]
theorem ai7 (w : World) {g : Nat} (cs : Array Value) (n sz : Nat) (e : TypeId) (hg : g = w.heap.size) (hz : cs.size = n * sz) (hm : n ≤ 9223372036854775807) :
  Q3 (w.alloc (.cells cs e)) w.heap.size (w.heap.size + 1) e sz (.slice (some ⟨g, 0, none⟩) n n) n cs.toList := by
 subst hg
 refine ⟨⟨by simpa using hz, .inr ⟨w.heap.size, n, _, rfl, bF7 _, heap_alloc_new w _, bF7 _, by unfold maxLen; omega, hz, ?_⟩⟩, fun g hg => by cases hg; exact Nat.lt_succ_self _⟩
 rw [← hz]
 exact bF8 (by simp)
theorem ap8 (w : World) (z : List Value) (n sz : Nat) (e : TypeId) (hz : z.length = sz) (hm : n ≤ 9223372036854775807) :
  Q3 (w.alloc (.cells (H1 z n).toArray e)) w.heap.size (w.heap.size + 1) e sz (.slice (some ⟨w.heap.size, 0, none⟩) n n) n (H1 z n) := by
 refine ⟨⟨by rw [O9, hz], .inr ⟨w.heap.size, n, _, rfl, bF7 _, heap_alloc_new w _, bF7 _, by unfold maxLen; omega, by simp [O9, hz], ?_⟩⟩, fun g hg => by cases hg; exact Nat.lt_succ_self _⟩
 have : (H1 z n).length = n * sz := by rw [O9, hz]
 rw [← this]
 simp
def setFrom (ys : List Value) (p : Nat) : List Value → List Value
 | [] => ys
 | u :: r => setFrom (ys.set p u) (p + 1) r
def World.setFrom (w : World) (g p : Nat) : List Value → World
 | [] => w
 | u :: r => World.setFrom (w.setCell ⟨g, p, none⟩ u) g (p + 1) r
theorem J2 (us : List Value) : ∀ (ys : List Value) (p : Nat), (setFrom ys p us).length = ys.length := by
 induction us with
 | nil => intro ys p; rfl
 | cons u r ih => intro ys p; simp [setFrom, ih]
theorem V8 (us : List Value) : ∀ (ys : List Value) (p : Nat), p + us.length ≤ ys.length → (setFrom ys p us).take (p + us.length) = ys.take p ++ us := by
 induction us with
 | nil => intro ys p h; simp [setFrom]
 | cons u r ih =>
  intro ys p h
  simp only [bF0] at h
  have := ih (ys.set p u) (p + 1) (by simp; omega)
  simp only [setFrom, bF0]
  rw [show p + (r.length + 1) = p + 1 + r.length by omega, this, S8 _ _ _ (by omega)]
  simp
theorem Q3.setFrom {lo hi : Nat} {e : TypeId} {sz n cap g : Nat} (us : List Value) : ∀ {w : World} {xs : List Value} {p : Nat}, Q3 w lo hi e sz (.slice (some ⟨g, 0, none⟩) n cap) n xs → p + us.length ≤ xs.length →
  Q3 (World.setFrom w g p us) lo hi e sz (.slice (some ⟨g, 0, none⟩) n cap) n (setFrom xs p us) := by
 induction us with
 | nil => intro w xs p h _; exact h
 | cons u r ih =>
  intro w xs p h hl
  simp only [bF0] at hl
  exact ih (h.setCell (by omega) u) (by simp; omega)
theorem Out.setFrom {lo hi g : Nat} {a : World} (us : List Value) : ∀ {w : World} {p : Nat}, Out lo hi a w → lo ≤ g → g < hi → Out lo hi a (World.setFrom w g p us) := by
 induction us with
 | nil => intro w p h _ _; exact h
 | cons u r ih => intro w p h h1 h2; exact ih (h.setCell h1 h2 u) h1 h2
theorem al1 {B g : Nat} {a : World} (us : List Value) : ∀ {w : World} {p : Nat}, Below B a w → B ≤ g → Below B a (World.setFrom w g p us) := by
 induction us with
 | nil => intro w p h _; exact h
 | cons u r ih => intro w p h h1; exact ih (h.setCell h1 u) h1
theorem Q3.tight {w : World} {lo hi : Nat} {e : TypeId} {sz : Nat} {v : Value} {n : Nat} {xs : List Value} (h : Q3 w lo hi e sz v n xs) :
  ∃ lo' hi', lo ≤ lo' ∧ hi' ≤ hi ∧ Q3 w lo' hi' e sz v n xs ∧ ∀ g, lo' ≤ g → g < hi' → v.ownBlock = some g := by
 have hl := h.lt
 cases hv : v.ownBlock with
 | none =>
  refine ⟨max lo hi, hi, by omega, bF7 _, ⟨⟨h.1.1, ?_⟩, fun g hg => by rw [hv] at hg; cases hg⟩, fun g h1 h2 => by omega⟩
  rcases h.1.2 with hn | ⟨g, cap, cur, rfl, _⟩
  ·exact .inl hn
  ·cases hv
 | some g =>
  obtain ⟨l1, l2, l3⟩ := hl g hv
  refine ⟨g, g + 1, l1, l2, ⟨⟨h.1.1, ?_⟩, fun g' hg => by rw [hv] at hg; cases hg; omega⟩, fun g' h1 h2 => by rw [show g' = g by omega]⟩
  rcases h.1.2 with hn | ⟨g', cap, cur, rfl, r⟩
  ·exact .inl hn
  ·cases hv
   exact .inr ⟨_, cap, cur, rfl, bF7 _, r.2⟩
def bc5 (u v : Value) : Prop := ∀ g, u.ownBlock = some g → v.ownBlock ≠ some g
theorem bc5.symm {u v : Value} (h : bc5 u v) : bc5 v u := fun g h1 h2 => h g h2 h1
def Blk (w : World) (b : Nat) (cs : List Value) : Prop := ∃ T, w.heap[b]? = some (.cells cs.toArray T (0, 0))
theorem Blk.lt {w : World} {b : Nat} {cs : List Value} (h : Blk w b cs) : b < w.heap.size := by
 obtain ⟨T, h⟩ := h; exact (Array.getElem?_eq_some_iff.1 h).1
theorem Blk.cell {w : World} {b : Nat} {cs : List Value} (h : Blk w b cs) (j : Nat) : w.cell? ⟨b, j, none⟩ = cs[j]? := by
 obtain ⟨T, h⟩ := h; simp [World.cell?, h]
theorem Blk.free {w : World} {b : Nat} {cs : List Value} (h : Blk w b cs) (j : Nat) : w.frozen? ⟨b, j, none⟩ = false := by
 obtain ⟨T, h⟩ := h; simp only [World.frozen?, h]; simp
theorem Blk.below {w w' : World} {b B : Nat} {cs : List Value} (h : Blk w b cs) (hb : Below B w w') (hB : b < B) : Blk w' b cs := by
 obtain ⟨T, h⟩ := h; exact ⟨T, (hb.block b hB).trans h⟩
theorem Blk.out {w w' : World} {b lo hi : Nat} {cs : List Value} (h : Blk w b cs) (hb : Out lo hi w w') (hB : b < lo ∨ hi ≤ b) : Blk w' b cs := by
 have hlt := h.lt
 obtain ⟨T, h⟩ := h; exact ⟨T, (hb.block b hlt hB).trans h⟩
theorem Blk.set {w : World} {b j : Nat} {cs : List Value} (h : Blk w b cs) (u : Value) : Blk (w.setCell ⟨b, j, none⟩ u) b (cs.set j u) := by
 obtain ⟨T, h⟩ := h
 refine ⟨T, ?_⟩
 simp only [World.setCell, Array.getElem?_modify]
 simp [h]
theorem Blk.new (w : World) (cs : List Value) (T : TypeId) : Blk (w.alloc (.cells cs.toArray T)) w.heap.size cs := ⟨T, heap_alloc_new w _⟩
theorem Blk.alloc {w : World} {b : Nat} {cs : List Value} (h : Blk w b cs) (o : Obj) : Blk (w.alloc o) b cs := by
 have hlt := h.lt
 obtain ⟨T, h⟩ := h; exact ⟨T, (Below.heap_alloc w o b hlt).trans h⟩
theorem Blk.drew {w : World} {b : Nat} {cs : List Value} (h : Blk w b cs) : Blk w.drew b cs := h
theorem Out.cell (w : World) (b j : Nat) (u : Value) : Out b (b + 1) w (w.setCell ⟨b, j, none⟩ u) :=
 Out.setCell (p := ⟨b, j, none⟩) (Out.refl b (b + 1) w) (bF7 b) (Nat.lt_succ_self b) u
end Go.Proofs.YthikdkjjdeehoaaGreat

namespace Go.Proofs.YthikdkjjdeehoaaGreat
set_option linter.unusedVariables false
set_option linter.unusedSimpArgs false
open Go Go.RowKit Go.ChangeShapes Go.WideShapes Go.Deep
theorem own : ownKnob Tryz.prog.godebug = none := by kernel_rfl
theorem bo7 : laidOutB Tryz.prog = true := by kernel_rfl
section
variable {H : Type} {enc : TypeId × Value → H} {W : World}
theorem aU8 {C : Nat → List Value} {sz : Nat} (hC : ∀ i, (C i).length = sz) : ∀ (n i j : Nat), i < n → j < sz → ((bG6 n).flatMap C)[i * sz + j]? = (C i)[j]? := by
 intro n
 induction n with
 | zero => intro i j h; omega
 | succ n ih =>
  intro i j h hj
  have hlen : ((bG6 n).flatMap C).length = n * sz := by
   clear ih h
   induction n with
   | zero => simp
   | succ n ih2 => rw [List.range_succ, List.flatMap_append, bF2, ih2]; simp [hC, bH7]
  rw [List.range_succ, List.flatMap_append]
  by_cases hin : i < n
  ·rw [bG9 (by rw [hlen]; have := bI3 sz (Nat.succ_le_of_lt hin); rw [bH7] at this; omega)]
   exact ih i j hin hj
  ·obtain rfl : i = n := by omega
   rw [bH8 (by omega), hlen]
   simp
theorem ar5 {C : Nat → List Value} {sz : Nat} (hC : ∀ i, (C i).length = sz) (n : Nat) : ((bG6 n).flatMap C).length = n * sz := by
 induction n with
 | zero => simp
 | succ n ih2 => rw [List.range_succ, List.flatMap_append, bF2, ih2]; simp [hC, bH7]
theorem aS0 {t e : TypeId} {fuel : Nat} {v : Value} {x : DataW H × List MemPlace} {sz : Nat} (ht : Tryz.prog.underlying t = some (.slice e)) (hc : Tryz.prog.cellsOf e = sz) (hsz : 0 < sz)
  (h : DataW.trod enc Tryz.prog W 0 (fun _ => true) true fuel t [v] = some x) :
  ∃ (n m : Nat) (C : Nat → List Value), Q8 W v n sz ((bG6 n).flatMap C) ∧ (∀ i, (C i).length = sz) ∧ ∀ i, i < n → ∃ y, DataW.trod enc Tryz.prog W 0 (fun _ => true) true m e (C i) = some y := by
 rcases open_slice ht h with ⟨hcs, _⟩ | ⟨a, len, cap, m, k, D, Pl, hcs, _, hl, hm, hmm, _, hx⟩
 ·cases hcs
  exact ⟨0, 0, fun _ => bI4 sz undef, Q8.nil _ _, by simp, fun i hi => by omega⟩
 ·cases hcs
  rw [hc] at hx
  have hmc : len ≤ m := by rw [hmm]; simp; omega
  obtain ⟨C, hC⟩ := choose_lt (α := List Value) (n := len) (p := fun i cs => cs.length = sz ∧ (∀ j, j < sz → W.cell? (a.add (i * sz + j)) = cs[j]?) ∧ ∃ y, DataW.trod enc Tryz.prog W 0 (fun _ => true) true k e cs = some y) (fun i hi => by
   obtain ⟨cs', h1, h2⟩ := hx i (by omega)
   obtain ⟨_, hlen, hcell⟩ := World.cells?_some h1
   exact ⟨cs', hlen, fun j hj => by rw [← add_add]; exact hcell j hj, _, h2⟩)
  let C' : Nat → List Value := fun i => if i < len then C i else bI4 sz undef
  have hC' : ∀ i, (C' i).length = sz := fun i => by
   by_cases hi : i < len
   ·simp only [C', if_pos hi]; exact (hC i hi).1
   ·simp [C', if_neg hi]
  refine ⟨len, k, C', ⟨ar5 hC' len, some a, cap, rfl, hl, hm, fun hn => ?_⟩, hC', fun i hi => ?_⟩
  ·obtain ⟨b, off, spot⟩ := a
   have h00 := (hC 0 hn).2.1 0 hsz
   have hlen0 := (hC 0 hn).1
   rw [bF1 (by omega)] at h00
   have hs : spot = none := by
    simpa [Addr.add] using World.cell?_spot h00
   subst hs
   have hb : b < W.heap.size := by simpa [Addr.add] using World.block_lt_of_cell? W _ h00
   refine ⟨b, off, rfl, hb, fun j u hj => ?_⟩
   have hjl : j < len * sz := by have := (bG0.1 hj).1; rw [ar5 hC'] at this; exact this
   have hi : j / sz < len := Nat.div_lt_of_lt_mul (by rw [Nat.mul_comm]; exact hjl)
   have hr : j % sz < sz := Nat.mod_lt _ hsz
   have hjj : j / sz * sz + j % sz = j := Nat.div_add_mod' j sz
   have hg := aU8 hC' len (j / sz) (j % sz) hi hr
   rw [hjj, hj] at hg
   have hcc := (hC _ hi).2.1 _ hr
   simp only [C', if_pos hi] at hg
   rw [hjj, ← hg] at hcc
   have hadd : (⟨b, off, none⟩ : Addr).add j = ⟨b, off + j, none⟩ := by unfold Addr.add; split <;> simp_all
   rw [hadd] at hcc
   exact hcc
  ·obtain ⟨y, hy⟩ := (hC i hi).2.2
   exact ⟨y, by simp only [C', if_pos hi]; exact hy⟩
theorem aD1 {α : Type} (n : Nat) (C : Nat → List Value) (f : α → Value) (g : Nat → α) (h : ∀ i, i < n → C i = [f (g i)]) : (bG6 n).flatMap C = ((bG6 n).map g).map f := by
 rw [List.map_map, List.flatMap_def]
 rw [List.map_congr_left (g := fun i => [f (g i)]) (fun i hi => h i (by simpa using hi))]
 induction n with
 | zero => simp
 | succ n ih =>
  rw [List.range_succ, List.map_append, List.flatten_append, List.map_append, ih (fun i hi => h i (by omega))]
  simp
theorem aq7 {fuel : Nat} {t : TypeId} {v : Value} {x : DataW H × List MemPlace} (ht : Tryz.prog.underlying t = some (.slice 3))
  (h : DataW.trod enc Tryz.prog W 0 (fun _ => true) true fuel t [v] = some x) : ∃ l : List Int, Q8 W v l.length 1 (l.map (Value.int .i64)) := by
 obtain ⟨n, m, C, hr, hC, hx⟩ := aS0 ht (sz := 1) (by kernel_rfl) (by omega) h
 obtain ⟨g, hg⟩ := choose_lt (α := Int) (n := n) (p := fun i b => C i = [.int .i64 b]) (fun i hi => by
  obtain ⟨y, hy⟩ := hx i hi
  obtain ⟨b, hb, _⟩ := DataW.trod_int Tryz.underlying3 hy
  exact ⟨b, hb⟩)
 refine ⟨(bG6 n).map g, ?_⟩
 rw [List.length_map, List.length_range, ← aD1 n C (Value.int .i64) g hg]
 exact hr
end
end Go.Proofs.YthikdkjjdeehoaaGreat

namespace Go.Proofs.YthikdkjjdeehoaaGreat
set_option linter.unusedVariables false
set_option linter.unusedSimpArgs false
open Go Go.RowKit
def _root_.Go.World.ext (w X : World) : World := { w with heap := w.heap ++ X.heap, drawn := X.drawn }
theorem v6 (w : World) (X : World) : Below w.heap.size w (w.ext X) :=
 ⟨rfl, rfl, rfl, by simp [World.ext], fun k hk => by simp only [World.ext]; rw [Array.getElem?_append_left hk]⟩
theorem aJ9 {w w' : World} (h : Below w.heap.size w w') : ∃ X, w' = w.ext X := by
 refine ⟨{ w' with heap := w'.heap.extract w.heap.size w'.heap.size }, ?_⟩
 obtain ⟨h1, h2, h3, h4, h5⟩ := h
 have hh : w'.heap = w.heap ++ w'.heap.extract w.heap.size w'.heap.size := by
  apply Array.ext_getElem?
  intro i
  rcases bI0 i w.heap.size with hi | hi
  ·rw [Array.getElem?_append_left hi, h5 i hi]
  ·rw [Array.getElem?_append_right hi, Array.getElem?_extract]
   split
   ·rw [show w.heap.size + (i - w.heap.size) = i by omega]
   ·rename_i hn
    rw [Array.getElem?_eq_none]
    simp at hn
    omega
 cases w; cases w'
 simp only [World.ext] at *
 subst h1 h2 h3
 rw [← hh]
theorem m7 {w : World} {b o : Nat} {v : Value} (h : w.cell? ⟨b, o, none⟩ = some v) (X : World) : (w.ext X).cell? ⟨b, o, none⟩ = some v := by
 have hb : b < w.heap.size := World.block_lt_of_cell? w ⟨b, o, none⟩ h
 rw [(T9 (v6 w X)).1 b o hb]; exact h
theorem Calls.ext_of' {P : Program} {f : FuncId} {args : Array Value} {w : World} {X : World} {v : Value}
  (h : Calls P f args (w.ext X) fun e w' => e = .returned v ∧ Below (w.ext X).heap.size (w.ext X) w') : Calls P f args (w.ext X) fun e w'' => e = .returned v ∧ ∃ Y, w'' = w.ext Y :=
 h.mono fun _ _ ⟨he, hb⟩ => ⟨he, aJ9 ((v6 w X).trans (hb.mono (v6 w X).size))⟩
theorem t3 {P : Program} {id : Nat} {Q : Exit → Act → World → Prop} {a : Act} {w : World} {l : List Oper} (hm : P.follows .mixedOrders = true) (hB : Region.lexB .any l.toArray = true)
  (h : wpQuiet P l.toArray (fun w' => ∃ X, w' = w.ext X) (fun a' => ∀ w', (∃ X, w' = w.ext X) → Q .normal a' w') l a) : (Code.region id l.toArray true).wp P Q a w :=
 wp_region_quiet (C := fun w' => ∃ X, w' = w.ext X) hm hB (aJ9 (w' := w.drew) (Below.refl _ _).drew) (by simpa using h)
theorem aJ4 {P : Program} {f : FuncId} {fn : Func} {c : Code} (hf : P.funcs[f]? = some fn) (hn : (fn.name == "runtime.NumGoroutine") = false) (hb : fn.body = some c) :
  ∀ args w, (callFunc f args).run P w = .ok (.enter f args) w := by
 intro args w
 have h1 : fn.name ≠ "runtime.NumGoroutine" := by simpa using hn
 simp [callFunc, hf, h1, hb, mark]
end Go.Proofs.YthikdkjjdeehoaaGreat

namespace Go.Proofs.YthikdkjjdeehoaaGreat
set_option linter.unusedVariables false
set_option linter.unusedSimpArgs false
theorem J3 {α : Type} (l : List α) (k : Nat) (h : k < l.length) : l.take (k + 1) = l.take k ++ [l[k]] := by
 rw [List.take_succ_eq_append_getElem h]
theorem al2 {α : Type} (p : α → Bool) (l : List α) (k : Nat) (h : k < l.length) : (l.take (k + 1)).all p = ((l.take k).all p && p l[k]) := by
 rw [J3 l k h, List.all_append]; simp
theorem a53 {α : Type} {p : α → Bool} {l : List α} {k : Nat} (h : k < l.length) (hp : p l[k] = false) : l.all p = false := by
 rw [List.all_eq_false]; exact ⟨l[k], bG5 h, by simp [hp]⟩
structure Z0 where
 op : Int
 a : Int
 b : Int
 c : Int
 d : Int
def Z0.l (x : Z0) : List Int := [x.op, x.a, x.b, x.c, x.d]
def aa8 : List Z0 → List Int
 | [] => []
 | x :: r => x.op :: x.a :: x.b :: x.c :: x.d :: aa8 r
theorem bi9 (l : List Z0) : (aa8 l).length = l.length * 5 := by
 induction l with
 | nil => rfl
 | cons x r ih => simp [aa8, ih]; omega
theorem Z0.ext' {x y : Z0} (h : x.l = y.l) : x = y := by
 cases x; cases y; simp [Z0.l] at h; simp [h]
theorem aU3 : ∀ {l m : List Z0}, aa8 l = aa8 m → l = m
 | [], [], _ => rfl
 | [], _ :: _, h => by simp [aa8] at h
 | _ :: _, [], h => by simp [aa8] at h
 | x :: r, y :: s, h => by
  simp only [aa8, List.cons.injEq] at h
  obtain ⟨h1, h2, h3, h4, h5, h6⟩ := h
  rw [aU3 h6, Z0.ext' (x := x) (y := y) (by simp [Z0.l, h1, h2, h3, h4, h5])]
theorem bj0 (l : List Z0) (i : Nat) (hi : i < l.length) : (aa8 l)[i * 5]? = some l[i].op ∧ (aa8 l)[i * 5 + 1]? = some l[i].a ∧ (aa8 l)[i * 5 + 2]? = some l[i].b ∧ (aa8 l)[i * 5 + 3]? = some l[i].c ∧ (aa8 l)[i * 5 + 4]? = some l[i].d := by
 induction l generalizing i with
 | nil => simp at hi
 | cons x r ih =>
  cases i with
  | zero => simp [aa8]
  | succ i =>
   rw [bH7]
   have := ih i (by simpa using hi)
   simpa [aa8, Nat.add_assoc] using this
structure H6 where
 vars : List Int
 arrays : List Int
 list : List Z0
def H6.size (c : H6) : Nat := c.vars.length + c.arrays.length + c.list.length
def H6.same (c d : H6) : Bool := decide (c.vars = d.vars) && decide (c.arrays = d.arrays) && decide (aa8 c.list = aa8 d.list)
theorem H6.same_eq {c d : H6} : c.same d = true ↔ c = d := by
 cases c; cases d
 simp only [H6.same, bE9, decide_eq_true_eq, H6.mk.injEq]
 constructor
 ·rintro ⟨⟨rfl, rfl⟩, h⟩; exact ⟨rfl, rfl, aU3 h⟩
 ·rintro ⟨rfl, rfl, rfl⟩; exact ⟨⟨rfl, rfl⟩, rfl⟩
def l6 (l : Int) : Bool := decide (0 ≤ l) && decide (l ≤ 3)
def J8 (vars arrays : List Int) : Bool := vars.all l6 && arrays.all l6 && decide (1 ≤ vars.length) && decide (vars.length ≤ 12) && decide (arrays.length ≤ 2)
def bm9 (c : H6) (kd : UInt8) (n : Int) : Bool :=
 if kd = 114 then decide (0 ≤ n) && decide (n < 14)
 else if kd = 99 then decide (0 ≤ n) && decide (n ≤ 255)
 else if kd = 118 then decide (0 ≤ n) && decide (n < c.vars.length)
 else if kd = 97 then decide (0 ≤ n) && decide (n < c.arrays.length)
 else if kd = 111 then decide (4 ≤ n) && decide (n ≤ 10)
 else decide (0 ≤ n) && decide (n < c.list.length)
def aO9 (op : Int) : List UInt8 :=
 if op = 1 then [114, 99] else if op = 2 then [114, 118] else if op = 3 then [118, 114] else if op = 4 then [114, 97, 114] else if op = 5 then [97, 114, 114]
 else if op = 6 then [114, 111, 114, 114] else if op = 7 then [114, 114, 114, 114] else if op = 8 then [116] else if op = 9 then [114, 116] else if op = 10 then [114, 116]
 else if op = 11 then [114] else []
def aN6 (c : H6) (kinds : List UInt8) (k : Nat) (n : Int) : Bool :=
 match kinds[k]? with
 | some kd => bm9 c kd n
 | none => decide (n = 0)
def bt2 (c : H6) (x : Z0) : Bool :=
 decide (1 ≤ x.op) && decide (x.op ≤ 13) && (aN6 c (aO9 x.op) 0 x.a && aN6 c (aO9 x.op) 1 x.b && aN6 c (aO9 x.op) 2 x.c && aN6 c (aO9 x.op) 3 x.d)
def bi1 (c : H6) : Bool := match c.list.getLast? with | some x => decide (x.op = 13) || decide (x.op = 8) | none => false
def aP4 (c : H6) : Bool := J8 c.vars c.arrays && decide (1 ≤ c.list.length) && decide (c.list.length ≤ 400) && c.list.all (bt2 c) && bi1 c
def bz5 (x : Z0) (i : Int) : List Int := if x.op = 13 then [] else if x.op = 8 then [x.a] else if x.op = 9 ∨ x.op = 10 then [i + 1, x.b] else [i + 1]
def nx (c : H6) (t : Int) : List Int := match c.list[t.toNat]? with | some x => bz5 x t | none => []
theorem as1 {c : H6} (h : aP4 c = true) : J8 c.vars c.arrays = true ∧ 1 ≤ c.list.length ∧ c.list.length ≤ 400 ∧ (∀ (i : Nat) (hi : i < c.list.length), bt2 c c.list[i] = true) ∧ bi1 c = true := by
 unfold aP4 at h
 simp only [bE9, decide_eq_true_eq, bG1] at h
 obtain ⟨⟨⟨⟨h1, h2⟩, h3⟩, h4⟩, h5⟩ := h
 exact ⟨h1, h2, h3, fun i hi => h4 _ (bG5 hi), h5⟩
inductive Rc (c : H6) : Int → Prop
 | zero : Rc c 0
 | step {i t : Int} : Rc c i → t ∈ nx c i → Rc c t
noncomputable def bD4 (c : H6) : List Bool := (bG6 c.list.length).map fun (j : Nat) => @decide (Rc c (j : Int)) (Classical.propDecidable _)
theorem aJ5 {bs : List Bool} {k : Nat} (h : bs[k]? = some false) : (bs.set k true).count false + 1 = bs.count false := by
 induction bs generalizing k with
 | nil => simp at h
 | cons b r ih =>
  cases k with
  | zero => simp at h; subst h; simp
  | succ k =>
   simp at h
   have := ih h
   simp only [List.set_cons_succ, List.count_cons]
   omega
theorem aM6 {bs : List Bool} {k j : Nat} (h : (bs.set k true)[j]? = some true) : j = k ∨ bs[j]? = some true := by
 rw [List.getElem?_set] at h
 split at h
 ·rename_i e; exact .inl e.symm
 ·exact .inr h
theorem aR4 {bs : List Bool} {k : Nat} (h : k < bs.length) : (bs.set k true)[k]? = some true := by simp [h]
structure bC3 (c : H6) (qs : List Int) (bs : List Bool) : Prop where
 len : bs.length = c.list.length
 cnt : qs.length + bs.count false = c.list.length
 q : ∀ t ∈ qs, 0 ≤ t ∧ t < c.list.length ∧ Rc c t
 sound : ∀ j : Nat, bs[j]? = some true → Rc c j
 inq : ∀ j : Nat, bs[j]? = some true → (j : Int) ∈ qs
 zero : bs[0]? = some true
theorem bC3.start {c : H6} (hc : aP4 c = true) : bC3 c [0] ((bI4 c.list.length false).set 0 true) := by
 have hn := (as1 hc).2.1
 have hone : ∀ j : Nat, ((bI4 c.list.length false).set 0 true)[j]? = some true → j = 0 := by
  intro j h
  rcases aM6 h with h | h
  ·exact h
  ·rw [List.getElem?_replicate] at h; split at h <;> simp at h
 refine ⟨by simp, ?_, ?_, ?_, ?_, ?_⟩
 ·have := aJ5 (bs := bI4 c.list.length false) (k := 0) (by rw [List.getElem?_replicate, if_pos (by omega)])
  simp at this ⊢
  omega
 ·intro t ht
  simp at ht; subst ht
  exact ⟨by omega, by omega, .zero⟩
 ·intro j h; rw [hone j h]; exact .zero
 ·intro j h; rw [hone j h]; simp
 ·exact aR4 (by simp; omega)
structure bl7 (c : H6) (ls : List Int) (bs : List Bool) : Prop where
 len : bs.length = c.list.length
 cnt : ls.length + 2 * bs.count false ≤ 2 * c.list.length + 1
 l : ∀ t ∈ ls, 0 ≤ t ∧ t < c.list.length ∧ Rc c t
 sound : ∀ j : Nat, bs[j]? = some true → Rc c j
 zero : bs[0]? = some true ∨ (0 : Int) ∈ ls
 clos : ∀ j : Nat, bs[j]? = some true → ∀ t ∈ nx c j, bs[t.toNat]? = some true ∨ t ∈ ls
theorem bl7.start {c : H6} (hc : aP4 c = true) : bl7 c [0] (bI4 c.list.length false) := by
 have hn := (as1 hc).2.1
 refine ⟨by simp, by simp; omega, ?_, ?_, .inr (by simp), ?_⟩
 ·intro t ht
  simp at ht; subst ht
  exact ⟨by omega, by omega, .zero⟩
 ·intro j h; rw [List.getElem?_replicate] at h; split at h <;> simp at h
 ·intro j h; rw [List.getElem?_replicate] at h; split at h <;> simp at h
theorem bl7.skip {c : H6} {ls : List Int} {i : Int} {bs : List Bool} (h : bl7 c (ls ++ [i]) bs) (hb : bs[i.toNat]? = some true) : bl7 c ls bs := by
 refine ⟨h.len, by have := h.cnt; simp at this; omega, fun t ht => h.l t (List.mem_append_left _ ht), h.sound, ?_, ?_⟩
 ·rcases h.zero with h0 | h0
  ·exact .inl h0
  ·rcases bH6.1 h0 with h0 | h0
   ·exact .inr h0
   ·simp at h0; subst h0; exact .inl hb
 ·intro j hj t ht
  rcases h.clos j hj t ht with h1 | h1
  ·exact .inl h1
  ·rcases bH6.1 h1 with h1 | h1
   ·exact .inr h1
   ·simp at h1; subst h1; exact .inl hb
end Go.Proofs.YthikdkjjdeehoaaGreat

namespace Go.Proofs.YthikdkjjdeehoaaGreat
set_option linter.unusedVariables false
set_option linter.unusedSimpArgs false
open Go Go.RowKit
section
variable {P : Program} {md : Region.Mode} {C : World → Prop}
theorem as0 {listed : Array Bool} {i : Nat} (h : listed.getD i true = false) : (listed.setIfInBounds i true).toList.count false + 1 = listed.toList.count false := by
 rw [Array.toList_setIfInBounds]
 refine aJ5 ?_
 rcases bI0 i listed.size with h' | h'
 ·simp [h'] at h ⊢; exact h
 ·simp [Array.getElem?_eq_none h'] at h
end
abbrev ints (l : List Int) : List Value := l.map (Value.int .i64)
theorem Y1 (l : List Int) (k : Nat) (h : k < l.length) : (ints l)[k]? = some (.int .i64 l[k]) := by simp [ints, h]
theorem bt3 : (Tryz.prog.info? 3).map (fun i => (i.zero, i.size, i.bytes)) = some (some (.int .i64 0), 1, 8) := by kernel_rfl
theorem aE8 (v1 v2 : Value) (xs ys : List Int) (w : World) (h1 : Q8 w v1 xs.length 1 (ints xs)) (h2 : Q8 w v2 ys.length 1 (ints ys)) :
  Calls Tryz.prog 83 #[v1, v2] w fun e w' => e = .returned (.bool (decide (xs = ys))) ∧ ∃ n, w' = w.drewN n := by
 obtain ⟨a1, c1, rfl, -, hm1, -, hc1⟩ := h1.open1
 obtain ⟨a2, c2, rfl, -, hm2, -, hc2⟩ := h2.open1
 by_cases hl : xs.length = ys.length
 ·rw [← hl] at hc2 ⊢
  clear h1 h2 hm2
  go_enter Tryz.func83, Tryz.ntmps83
  go_wp2
  go_loopw [5] (fun i wr => ∃ k : Nat, k ≤ xs.length ∧ i = .int .i64 k ∧ xs.take k = ys.take k ∧ ∃ n, wr = w.drewN n) (fun i _ => xs.length - (intOf i).toNat)
  case atStart => exact ⟨0, bH1 _, rfl, rfl, 0, rfl⟩
  case round =>
   obtain ⟨k, hk, rfl, ht, nd, rfl⟩ := hrel
   have HT : Hid (xs.take k = ys.take k) := ht
   clear ht
   have HL : Hid (xs.length = ys.length) := hl
   clear hl
   by_cases hlt : k < xs.length
   ·have hlt2 : k < ys.length := by have := HL.out; omega
    obtain ⟨b1, o1, rfl, hb1, hx⟩ := hc1 k hlt
    obtain ⟨b2, o2, rfl, hb2, hy⟩ := hc2 k hlt
    rw [Y1 _ _ hlt] at hx
    rw [Y1 _ _ hlt2] at hy
    clear hc1 hc2
    go_wp2
    go_quiet (fail)
    go_wp2
    ·rename_i hd
     go_ret
     exact ⟨k6 (by symm; simp; intro h; subst h; simp at hd), _, by first | rfl | exact World.drewN_drewN _ _ _⟩
    ·rename_i hd
     refine ⟨⟨k + 1, by omega, by go_num, ad2 HT.out hlt hlt2 (by simpa using hd), _, by first | rfl | exact World.drewN_drewN _ _ _⟩, by simp [intOf]; omega⟩
   ·go_wp2
    go_ret
    exact ⟨k6 (by symm; simp; exact T2 HT.out (by omega) (by have := HL.out; omega)), _, rfl⟩
 ·have hne : ((xs.length : Int) == (ys.length : Int)) = false := by simp; omega
  clear hc1 hc2
  go_enter Tryz.func83, Tryz.ntmps83
  go_wp2
  go_ret
  exact ⟨k6 (by symm; simp; intro h; exact hl (by rw [h])), 0, rfl⟩
theorem aB2 (v : Value) (n : Nat) (xs : List Value) (m : Int) (w : World) (h : Q8 w v n 1 xs) (hm : 0 ≤ m) (hm2 : m ≤ 1048576) :
  Calls Tryz.prog 75 #[v, .int .i64 m] w fun e w' => e = .returned (.int .i64 (J1 m n)) ∧ w = w' := by
 obtain ⟨a1, c1, rfl, -, hm1, -, hc1⟩ := h.open1
 clear hc1 h
 by_cases hlt : m < n
 all_goals
  go_enter Tryz.func75, Tryz.ntmps75
  go_wp2
  go_ret
  exact ⟨w6 (by unfold J1; split <;> omega), rfl⟩
theorem aB0 (v : Value) (xs : List Int) (w : World) (h : Q8 w v xs.length 1 (ints xs)) (hb : xs.length ≤ 17592186044416) :
  Calls Tryz.prog 80 #[v] w fun e w' => ∃ u, e = .returned u ∧ Q3 w' w.heap.size w'.heap.size 3 1 u xs.length (ints xs) ∧ Below w.heap.size w w' := by
 obtain ⟨a1, c1, rfl, -, hm1, -, hc1⟩ := h.open1
 clear h
 have hmk := aq4 (P := Tryz.prog) (t := 23) Tryz.underlying23 bt3 rfl (by omega) xs.length (by omega) hm1
 have hown := ap8 w (Value.int .i64 0).cells.toList xs.length 1 3 rfl hm1
 go_enter Tryz.func80, Tryz.ntmps80
 go_wp2
 clear hmk
 go_loopw [4] (fun i wr => ∃ (k : Nat) (ys : List Value), k ≤ xs.length ∧ i = .int .i64 k ∧ Q3 wr w.heap.size (w.heap.size + 1) 3 1 (.slice (some ⟨w.heap.size, 0, none⟩) xs.length xs.length) xs.length ys ∧ ys.take k = (ints xs).take k ∧ Below w.heap.size w wr) (fun i _ => xs.length - (intOf i).toNat)
 case atStart => exact ⟨0, _, bH1 _, rfl, hown, rfl, (Below.refl _ _).alloc (bF7 _) _⟩
 case round =>
  obtain ⟨k, ys, hk, rfl, ho, ht, hbw⟩ := hrel
  have HT : Hid (ys.take k = (ints xs).take k) := ht
  clear ht hown
  by_cases hlt : k < xs.length
  ·obtain ⟨b1, o1, rfl, hb1, hx⟩ := hc1 k hlt
   rw [Y1 _ _ hlt, ← (T9 hbw).1 _ _ hb1] at hx
   have hyl : ys.length = xs.length := by rw [ho.1.1, Nat.mul_one]
   obtain ⟨g, cap, hv, hg1, hg2, hg3, hf, u0, hc⟩ := ho.at (j := k) (by omega)
   cases hv
   have HY : Hid (ys.length = xs.length) := hyl
   clear hc1 hyl
   go_wp2
   go_roundw
   case rel =>
    refine ⟨k + 1, ys.set k (.int .i64 xs[k]), by omega, by go_num, ho.setCell (by have := HY.out; omega) _, ?_, hbw.setCell (bF7 _) _⟩
    rw [S8 _ _ _ (by have := HY.out; omega), HT.out, p7 (ints xs) k (by simpa using hlt)]
    simp
   case measure => simp [intOf]; omega
  ·go_wp2
   go_ret
   have he : ys = ints xs := T2 HT.out (by rw [ho.1.1]; omega) (by simp; omega)
   subst he
   exact ⟨_, rfl, ho.wide (bF7 _) (by have := ho.lt _ rfl; omega), hbw⟩
def E4 (K n : Nat) : List Int := (bG6 n).map fun (j : Nat) => ((K : Int) + (j : Int))
theorem ad9 (K n : Nat) : (E4 K n).length = n := by simp [E4]
theorem a13 (K n j : Nat) (h : j < (E4 K n).length) : (E4 K n)[j] = (K : Int) + (j : Int) := by simp [E4]
theorem aO0 (v : Value) (xs : List Int) (K lo hi : Nat) (w : World) (h : Q3 w lo hi 3 1 v xs.length (ints xs)) (hK : K + xs.length ≤ 9000000000000000000) :
  Calls Tryz.prog 85 #[v, .int .i64 K] w fun e w' => e = .returned (.int .i64 (K + xs.length : Nat)) ∧ Q3 w' lo hi 3 1 v xs.length (ints (E4 K xs.length)) ∧ Out lo hi w w' := by
 obtain ⟨a1, c1, rfl, -, hm1, -, -⟩ := h.row.open1
 go_enter Tryz.func85, Tryz.ntmps85
 go_wp2
 go_loopw [1, 5] (fun q i wr => ∃ (k : Nat) (ys : List Value), k ≤ xs.length ∧ q = .int .i64 ((K + k : Nat) : Int) ∧ i = .int .i64 k ∧ Q3 wr lo hi 3 1 (.slice a1 xs.length c1) xs.length ys ∧ ys.take k = (ints (E4 K xs.length)).take k ∧ Out lo hi w wr) (fun _ i _ => xs.length - (intOf i).toNat)
 case atStart => exact ⟨0, _, bH1 _, rfl, rfl, h, rfl, Out.refl _ _ _⟩
 case round =>
  obtain ⟨k, ys, hk, rfl, rfl, ho, ht, hbw⟩ := hrel
  have HT : Hid (ys.take k = (ints (E4 K xs.length)).take k) := ht
  clear ht h
  by_cases hlt : k < xs.length
  ·have hyl : ys.length = xs.length := by rw [ho.1.1, Nat.mul_one]
   obtain ⟨g, cap, hv, hg1, hg2, hg3, hf, u0, hc⟩ := ho.at (j := k) (by omega)
   cases hv
   have HY : Hid (ys.length = xs.length) := hyl
   clear hyl
   go_wp2
   go_roundw
   case rel =>
    refine ⟨k + 1, _, by omega, by go_num, by go_num, ho.setCell (by have := HY.out; omega) _, ?_, hbw.setCell hg1 hg2 _⟩
    rw [S8 _ _ _ (by have := HY.out; omega), HT.out, p7 (ints _) k (by simpa [E4] using hlt)]
    simp [E4]
   case measure => simp [intOf]; omega
  ·go_wp2
   go_ret
   obtain rfl : k = xs.length := by omega
   have he : ys = ints (E4 K xs.length) := T2 HT.out (by rw [ho.1.1]; omega) (by simp [E4])
   subst he
   exact ⟨rfl, ho, hbw⟩
theorem aq9 (v : Value) (n K : Nat) (w : World) (h : Q8 w v n 1 (ints (E4 K n))) (hK : K + n ≤ 9000000000000000000) :
  Calls Tryz.prog 87 #[v, .int .i64 K] w fun e w' => e = .returned (.int .i64 (K + n : Nat)) ∧ ∃ m, w' = w.drewN m := by
 obtain ⟨a1, c1, rfl, -, hm1, -, hc1⟩ := h.open1
 clear h
 go_enter Tryz.func87, Tryz.ntmps87
 go_wp2
 go_loopw [1, 5] (fun q i wr => ∃ (k : Nat), k ≤ n ∧ q = .int .i64 ((K + k : Nat) : Int) ∧ i = .int .i64 k ∧ ∃ m, wr = w.drewN m) (fun _ i _ => n - (intOf i).toNat)
 case atStart => exact ⟨0, bH1 _, rfl, rfl, 0, rfl⟩
 case round =>
  obtain ⟨k, hk, rfl, rfl, nd, rfl⟩ := hrel
  by_cases hlt : k < n
  ·obtain ⟨b1, o1, rfl, hb1, hx⟩ := hc1 k hlt
   rw [Y1 _ _ (by simpa [E4] using hlt), a13] at hx
   clear hc1
   go_wp2
   go_roundw
   case rel => exact ⟨k + 1, by omega, by go_num, by go_num, _, rfl⟩
   case measure => simp [intOf]; omega
  ·go_wp2
   go_ret
   obtain rfl : k = n := by omega
   exact ⟨rfl, _, rfl⟩
abbrev bx8 (w : World) (v : Value) (l : List Z0) : Prop := Q8 w v l.length 5 (ints (aa8 l))
abbrev Z0.v (x : Z0) : Value := .agg #[.int .i64 x.op, .int .i64 x.a, .int .i64 x.b, .int .i64 x.c, .int .i64 x.d]
def ay9 (w : World) (v : Value) (c : H6) : Prop :=
 ∃ v1 v2 v3, v = .agg #[v1, v2, v3] ∧ Q8 w v1 c.vars.length 1 (ints c.vars) ∧ Q8 w v2 c.arrays.length 1 (ints c.arrays) ∧ bx8 w v3 c.list
def Q6 (w : World) (lo hi : Nat) (v : Value) (c : H6) : Prop :=
 ∃ v1 v2 v3, v = .agg #[v1, v2, v3] ∧ Q3 w lo hi 3 1 v1 c.vars.length (ints c.vars) ∧ Q3 w lo hi 3 1 v2 c.arrays.length (ints c.arrays) ∧ Q3 w lo hi 86 5 v3 c.list.length (ints (aa8 c.list)) ∧
  bc5 v1 v2 ∧ bc5 v1 v3 ∧ bc5 v2 v3
theorem ay9.below {w w' : World} {v : Value} {c : H6} (h : ay9 w v c) (hb : Below w.heap.size w w') : ay9 w' v c := by
 obtain ⟨v1, v2, v3, rfl, h1, h2, h3⟩ := h
 exact ⟨v1, v2, v3, rfl, h1.below hb, h2.below hb, h3.below hb⟩
theorem Q6.row {w : World} {lo hi : Nat} {v : Value} {c : H6} (h : Q6 w lo hi v c) : ay9 w v c := by
 obtain ⟨v1, v2, v3, rfl, h1, h2, h3, _⟩ := h
 exact ⟨v1, v2, v3, rfl, h1.row, h2.row, h3.row⟩
theorem Q6.keep {w w' : World} {lo hi B : Nat} {v : Value} {c : H6} (h : Q6 w lo hi v c) (hb : Below B w w') (hB : hi ≤ B) : Q6 w' lo hi v c := by
 obtain ⟨v1, v2, v3, rfl, h1, h2, h3, hd⟩ := h
 exact ⟨v1, v2, v3, rfl, h1.keep hb hB, h2.keep hb hB, h3.keep hb hB, hd⟩
theorem Q6.out {w w' : World} {lo hi lo' hi' : Nat} {v : Value} {c : H6} (h : Q6 w lo hi v c) (hb : Out lo' hi' w w') (hB : hi ≤ lo' ∨ hi' ≤ lo) : Q6 w' lo hi v c := by
 obtain ⟨v1, v2, v3, rfl, h1, h2, h3, hd⟩ := h
 exact ⟨v1, v2, v3, rfl, h1.out hb hB, h2.out hb hB, h3.out hb hB, hd⟩
theorem Q6.wide {w : World} {lo hi lo' hi' : Nat} {v : Value} {c : H6} (h : Q6 w lo hi v c) (h1 : lo' ≤ lo) (h2 : hi ≤ hi') : Q6 w lo' hi' v c := by
 obtain ⟨v1, v2, v3, rfl, g1, g2, g3, hd⟩ := h
 exact ⟨v1, v2, v3, rfl, g1.wide h1 h2, g2.wide h1 h2, g3.wide h1 h2, hd⟩
def av9 (w : World) (v : Value) (K nv na nl : Nat) : Prop :=
 ∃ v1 v2 v3, v = .agg #[v1, v2, v3] ∧ Q8 w v1 nv 1 (ints (E4 K nv)) ∧ Q8 w v2 na 1 (ints (E4 (K + nv) na)) ∧ Q8 w v3 nl 5 (ints (E4 (K + nv + na) (nl * 5)))
theorem av9.below {w w' : World} {v : Value} {K nv na nl : Nat} (h : av9 w v K nv na nl) (hb : Below w.heap.size w w') : av9 w' v K nv na nl := by
 obtain ⟨v1, v2, v3, rfl, h1, h2, h3⟩ := h
 exact ⟨v1, v2, v3, rfl, h1.below hb, h2.below hb, h3.below hb⟩
theorem bi7 {l : List Int} : ∀ u ∈ ints l, u.oneCell' = true := by
 intro u hu
 obtain ⟨x, _, rfl⟩ := List.mem_map.1 hu
 rfl
theorem aR9 {P : Program} {w : World} {lo : Nat} {t ty e : TypeId} {i : TypeInfo} {size : Nat} (ht : P.underlying t = some (.slice e)) (hi : P.info? e = some i)
  {v : Value} {n : Nat} {xs : List Value} (hown : w.ownsRow lo e size v n xs) (c : Nat) : (Builtin.append_ #[t, t] ty #[v, .slice none 0 c]).run P w = .ok v w := by
 obtain ⟨_, h⟩ := hown
 rcases h with ⟨rfl, rfl⟩ | ⟨g, cap, cur, rfl, _, _, hnc, _⟩
 ·simp [Builtin.append_, run_underlying ht, sizeOf, typeInfo, hi, Builtin.lenOf, Builtin.firstCells]
 ·simp [Builtin.append_, run_underlying ht, sizeOf, typeInfo, hi, Builtin.lenOf, Builtin.firstCells, hnc, storeCells]
theorem ai6 {w : World} {lo : Nat} {e : TypeId} {sz : Nat} {v : Value} {n : Nat} {xs : List Value} (h : w.ownsRow lo e sz v n xs) : ∃ a k, v = .slice a n k := by
 rcases h.2 with ⟨rfl, rfl⟩ | ⟨g, cap, cur, rfl, _⟩
 ·exact ⟨_, _, rfl⟩
 ·exact ⟨_, _, rfl⟩
theorem ap5 {P : Program} {w : World} {lo : Nat} {t ty e : TypeId} {z : Value} {size bytes : Nat} (ht : P.underlying t = some (.slice e)) (hi : (P.info? e).map (fun i => (i.zero, i.size, i.bytes)) = some (some z, size, bytes))
  (hzs : z.cells.size = size) (hsz : 0 < size) {v : Value} {n : Nat} {xs : List Value} (hown : w.ownsRow lo e size v n xs) {u : Value} {m : Nat} {news : List Value} (hr : Q8 w u m size news) (h1 : ∀ u ∈ news, u.oneCell' = true)
  (h63 : n + m ≤ 9223372036854775807) (hbytes : (n + m) * bytes ≤ 140737488355328) (hbase : lo ≤ w.heap.size) :
  ∃ a' k' w', (Builtin.append_ #[t, t] ty #[v, u]).run P w = .ok (.slice a' (n + m) k') w' ∧ w'.ownsRow lo e size (.slice a' (n + m) k') (n + m) (xs ++ news) ∧ Below lo w w' ∧ w.grownBy w' v.ownBlock ∧ (∀ g, (Value.slice a' (n + m) k').ownBlock = some g → v.ownBlock = some g ∨ w.heap.size ≤ g) := by
 obtain ⟨i, g1, g2, g3, g4⟩ := info_parts hi
 obtain ⟨hl, A, c, rfl, hmc, hc, hA⟩ := hr
 have below_of : ∀ {w' : World}, w.grownBy w' v.ownBlock → Below lo w w' := fun {w'} hg => by
  refine ⟨hg.os, hg.tape, hg.output, hg.size, fun k hk => hg.block k (by omega) fun he => ?_⟩
  have := hown.lt k he.symm
  omega
 rcases A with _ | a
 ·have hm : m = 0 := by
   rcases Nat.eq_zero_or_pos m with h0 | h0
   ·exact h0
   ·obtain ⟨_, _, he, _⟩ := hA h0; cases he
  subst hm
  have hn : news = [] := bI1 (by simpa using hl)
  subst hn
  obtain ⟨a', k', rfl⟩ := ai6 hown
  exact ⟨a', k', w, aR9 ht g1 hown c, by simpa using hown, Below.refl _ _, ⟨rfl, rfl, rfl, bF7 _, fun _ _ _ => rfl⟩, fun g hg => .inl hg⟩
 ·have hcells : ∀ j u, news[j]? = some u → w.cell? (a.add j) = some u := by
   intro j u hu
   have h0 : 0 < m := by
    rcases Nat.eq_zero_or_pos m with h0 | h0
    ·subst h0
     have hn : news = [] := bI1 (by simpa using hl)
     subst hn; simp at hu
    ·exact h0
   obtain ⟨b, off, he, hb, hx⟩ := hA h0
   cases he
   have hadd : (⟨b, off, none⟩ : Addr).add j = ⟨b, off + j, none⟩ := by unfold Addr.add; split <;> simp_all
   rw [hadd]
   exact hx j u hu
  obtain ⟨v', w', hrun, h2, h3, _, h5⟩ := run_append_own_at (P := P) w lo t ty e i z size bytes ht g1 g2 g3 g4 hzs hsz v n xs hown a m c news hl hcells h1 (by unfold maxLen; omega) hbytes hbase
  obtain ⟨a', k', rfl⟩ := ai6 h2
  exact ⟨a', k', w', hrun, h2, below_of h3, h3, fun g hg => h5.elim (fun h => .inl (h ▸ hg)) fun h => .inr (by rw [h] at hg; cases hg; exact bF7 _)⟩
theorem aY6 {P : Program} {w : World} {ops : Array Oper} {rest : List Oper} {o : Oper} {a : Act} {Q : Exit → Act → World → Prop} {lo : Nat} {t e : TypeId} {z : Value} {size bytes : Nat} {v : Value} {n : Nat} {xs : List Value} {u : Value} {m : Nat} {news : List Value}
  (hgd : o.guard = none) (s x : Operand) (ho : o.op = .call { callee := .builtin .append, args := #[s, x], argTypes := #[t, t] })
  (ht : P.underlying t = some (.slice e)) (hi : (P.info? e).map (fun i => (i.zero, i.size, i.bytes)) = some (some z, size, bytes))
  (hzs : z.cells.size = size) (hsz : 0 < size) (hs : a.eval s = v) (hown : w.ownsRow lo e size v n xs) (hx : a.eval x = u) (hr : Q8 w u m size news) (h1 : ∀ u ∈ news, u.oneCell' = true)
  (h63 : n + m ≤ 9223372036854775807) (hbytes : (n + m) * bytes ≤ 140737488355328) (hbase : lo ≤ w.heap.size)
  (h : ∀ a' k' w', w'.ownsRow lo e size (.slice a' (n + m) k') (n + m) (xs ++ news) → Below lo w w' → w.grownBy w' v.ownBlock → (∀ g, (Value.slice a' (n + m) k').ownBlock = some g → v.ownBlock = some g ∨ w.heap.size ≤ g) → wpList P ops Q rest (a.put o.dst (.slice a' (n + m) k')) w') : wpList P ops Q (o :: rest) a w := by
 refine wpList_plain hgd fun K hK => ?_
 obtain ⟨a', k', w', hrun, h2, h3, h4, h5⟩ := ap5 (ty := o.type) ht hi hzs hsz hown hr h1 h63 hbytes hbase
 unfold Oper.wp execOp
 simp only [ho, resolve, invoke, builtin, Sem.run_bind, Sem.run_pure, Result.andThen_ok, List.map_toArray, bI2, List.map_nil, hs, hx, hrun]
 exact hK _ _ (h a' k' w' h2 h3 h4 h5)
section
variable {P : Program}
theorem a83 {x : Oper} {a : Act} {w : World} {K : Act → World → Prop} {Q Q0 : Exit → Act → World → Prop} (h0 : ∀ e a w, Q0 e a w → e = .normal) (h : x.wp P a w K Q0) : x.wp P a w K Q := by
 unfold Oper.wp at *
 generalize (execOp a.eval x).run P w = r at *
 cases r with
 | ok n w' =>
  cases n <;> simp only [Oper.upon] at h ⊢ <;>
   first
    | exact h
    | exact Calls.mono h (fun e w'' he => by
      cases e
      ·exact he
      ·exact absurd (h0 _ _ _ he) (by simp)
      ·obtain ⟨a, w, hq⟩ := he; exact absurd (h0 _ _ _ hq) (by simp))
 | halt y w' =>
  cases y <;> simp only [Oper.upon] at h ⊢ <;> first | exact h | exact absurd (h0 _ _ _ h) (by simp)
end
section
variable {P : Program}
structure bE7 (mk : (Nat → Value) → Act) (C : World → Prop) (R : Nat → Value → World → Prop) (n : Nat) (listed : Array Bool) (f : Nat → Value) (a : Act) (w : World) : Prop where
 act : a = mk f
 cls : C w
 val : ∀ i, i < n → listed.getD i false = true → R i (f i) w
end
def J0 (φ φ' : Nat → Prop) (w w' : World) : Prop := w.heap.size ≤ w'.heap.size ∧ ∀ b, b < w.heap.size → φ b → φ' b ∧ w'.heap[b]? = w.heap[b]?
def af1 (R : World → (Nat → Prop) → Prop) : Prop := ∀ w w' φ φ', J0 φ φ' w w' → R w φ → R w' φ'
theorem J0.below {φ : Nat → Prop} {w w' : World} (h : Below w.heap.size w w') : J0 φ φ w w' := ⟨h.size, fun b hb hf => ⟨hf, h.block b hb⟩⟩
theorem J0.mono {φ φ' : Nat → Prop} {w : World} (h : ∀ b, b < w.heap.size → φ b → φ' b) : J0 φ φ' w w := ⟨bF7 _, fun b hb hf => ⟨h b hb hf, rfl⟩⟩
theorem J0.cell {φ φ' : Nat → Prop} {w w' : World} (h : J0 φ φ' w w') {b o : Nat} (hb : b < w.heap.size) (hf : φ b) : w'.cell? ⟨b, o, none⟩ = w.cell? ⟨b, o, none⟩ := by
 simp only [World.cell?, (h.2 b hb hf).2]
def D9 (w : World) (φ : Nat → Prop) (v : Value) (n sz : Nat) (xs : List Value) : Prop :=
 xs.length = n * sz ∧ ∃ a cap, v = .slice a n cap ∧ n ≤ cap ∧ cap ≤ maxLen ∧
  (0 < n → ∃ b off, a = some ⟨b, off, none⟩ ∧ b < w.heap.size ∧ φ b ∧ ∀ j u, xs[j]? = some u → w.cell? ⟨b, off + j, none⟩ = some u)
theorem D9.nice (v : Value) (n sz : Nat) (xs : List Value) : af1 fun w φ => D9 w φ v n sz xs := by
 rintro w w' φ φ' ha ⟨hl, a, cap, rfl, h1, h2, h3⟩
 refine ⟨hl, a, cap, rfl, h1, h2, fun hn => ?_⟩
 obtain ⟨b, off, rfl, hb, hf, hc⟩ := h3 hn
 exact ⟨b, off, rfl, bH5 hb ha.1, (ha.2 b hb hf).1, fun j u hj => (ha.cell hb hf).trans (hc j u hj)⟩
theorem D9.row {w : World} {φ : Nat → Prop} {v : Value} {n sz : Nat} {xs : List Value} (h : D9 w φ v n sz xs) : Q8 w v n sz xs := by
 obtain ⟨hl, a, cap, rfl, h1, h2, h3⟩ := h
 refine ⟨hl, a, cap, rfl, h1, h2, fun hn => ?_⟩
 obtain ⟨b, off, rfl, hb, _, hc⟩ := h3 hn
 exact ⟨b, off, rfl, hb, hc⟩
theorem Q8.rowF {w : World} {v : Value} {n sz : Nat} {xs : List Value} (h : Q8 w v n sz xs) {φ : Nat → Prop} (hf : ∀ b, b < w.heap.size → φ b) : D9 w φ v n sz xs := by
 obtain ⟨hl, a, cap, rfl, h1, h2, h3⟩ := h
 refine ⟨hl, a, cap, rfl, h1, h2, fun hn => ?_⟩
 obtain ⟨b, off, rfl, hb, hc⟩ := h3 hn
 exact ⟨b, off, rfl, hb, hf b hb, hc⟩
theorem D9.nil (w : World) (φ : Nat → Prop) (sz : Nat) : D9 w φ (.slice none 0 0) 0 sz [] := ⟨by simp, none, 0, rfl, bF7 _, by unfold maxLen; omega, fun h => absurd h (by omega)⟩
theorem G0 {w : World} {lo : Nat} {e : TypeId} {sz : Nat} {v : Value} {n : Nat} {xs : List Value} (h : w.ownsRow lo e sz v n xs) {φ : Nat → Prop} (hf : ∀ g, v.ownBlock = some g → φ g) : D9 w φ v n sz xs := by
 obtain ⟨hl, a, cap, hv, h1, h2, h3⟩ := X5 h
 refine ⟨hl, a, cap, hv, h1, h2, fun hn => ?_⟩
 obtain ⟨b, off, he, hb, hc⟩ := h3 hn
 refine ⟨b, off, he, hb, ?_, hc⟩
 rcases h.2 with ⟨hv', h0⟩ | ⟨g, cap', cur, hv', _⟩
 ·omega
 ·rw [hv'] at hv
  cases hv
  cases he
  exact hf _ (by rw [hv']; rfl)
inductive U7 where
 | box (b : Nat) (cs : List Value)
 | row (e : TypeId) (sz : Nat) (v : Value) (n : Nat) (xs : List Value)
 | dat (R : World → (Nat → Prop) → Prop)
 | own (S : Nat → Prop) (R : World → Prop)
def U7.blk : U7 → Nat → Prop
 | .box b _ => fun g => g = b
 | .row _ _ v _ _ => fun g => v.ownBlock = some g
 | .dat _ => fun _ => False
 | .own S _ => S
def Fr (φ : Nat → Prop) (L : List U7) (b : Nat) : Prop := φ b ∧ ∀ r ∈ L, ¬ r.blk b
def U7.holds (w : World) (φ : Nat → Prop) : U7 → Prop
 | .box b cs => Blk w b cs
 | .row e sz v n xs => w.ownsRow 0 e sz v n xs
 | .dat R => af1 R ∧ R w φ
 | .own S R => (∀ w w', R w → (∀ b, S b → b < w.heap.size → w'.heap[b]? = w.heap[b]?) → R w') ∧ R w ∧ ∀ b, S b → b < w.heap.size
structure C3 (ψ : Nat → Prop) (w w' : World) : Prop where
 os : w'.os = w.os
 tape : w'.tape = w.tape
 output : w'.output = w.output
 size : w.heap.size ≤ w'.heap.size
 block : ∀ b, b < w.heap.size → ψ b → w'.heap[b]? = w.heap[b]?
theorem C3.refl (ψ : Nat → Prop) (w : World) : C3 ψ w w := ⟨rfl, rfl, rfl, bF7 _, fun _ _ _ => rfl⟩
theorem C3.trans {ψ : Nat → Prop} {a b c : World} (h : C3 ψ a b) (k : C3 ψ b c) : C3 ψ a c :=
 ⟨k.os.trans h.os, k.tape.trans h.tape, k.output.trans h.output, bH0 h.size k.size, fun i hi hp => (k.block i (bH5 hi h.size) hp).trans (h.block i hi hp)⟩
theorem C3.of_below {ψ : Nat → Prop} {w w' : World} {B : Nat} (h : Below B w w') (hB : ∀ b, b < w.heap.size → ψ b → b < B) : C3 ψ w w' := ⟨h.os, h.tape, h.output, h.size, fun b hb hp => h.block b (hB b hb hp)⟩
theorem C3.below {w w' : World} {ψ : Nat → Prop} (h : C3 ψ w w') (hp : ∀ b, b < w.heap.size → ψ b) : Below w.heap.size w w' := ⟨h.os, h.tape, h.output, h.size, fun b hb => h.block b hb (hp b hb)⟩
structure A1 (φ ψ : Nat → Prop) (w0 w : World) (L : List U7) : Prop where
 kept : C3 ψ w0 w
 fresh : ∀ b, w0.heap.size ≤ b → φ b
 holds : ∀ (r : U7), r ∈ L → r.holds w (Fr φ L)
 dis : ∀ (i j : Nat) (a b : U7) (g : Nat), L[i]? = some a → L[j]? = some b → i ≠ j → a.blk g → ¬ b.blk g
 ge : ∀ (r : U7) (b : Nat), r ∈ L → r.blk b → w0.heap.size ≤ b ∨ ¬ ψ b
section
variable {φ ψ : Nat → Prop} {w0 w w' : World} {L : List U7}
theorem A1.start (hf : ∀ b, w0.heap.size ≤ b → φ b) : A1 φ ψ w0 w0 [] := ⟨C3.refl _ _, hf, (fun _ h => by cases h), (fun i j a b g h => by simp at h), (fun _ _ h => by cases h)⟩
theorem U7.lt {r : U7} (h : r.holds w φ) {b : Nat} (hb : r.blk b) : b < w.heap.size := by
 cases r with
 | box b' cs => cases hb; exact Blk.lt h
 | row e sz v n xs => exact (World.ownsRow.lt h b hb).2
 | dat R => cases hb
 | own S R => exact h.2.2 b hb
theorem A1.lt (M : A1 φ ψ w0 w L) {r : U7} (hr : r ∈ L) {b : Nat} (hb : r.blk b) : b < w.heap.size := U7.lt (M.holds r hr) hb
theorem A1.frFresh (M : A1 φ ψ w0 w L) : ∀ b, w.heap.size ≤ b → Fr φ L b := fun b hb => ⟨M.fresh b (bH0 M.kept.size hb), fun r hr he => by have := M.lt hr he; omega⟩
theorem A1.size (M : A1 φ ψ w0 w L) : w0.heap.size ≤ w.heap.size := M.kept.size
theorem A1.below (M : A1 φ ψ w0 w L) (hp : ∀ b, b < w0.heap.size → ψ b) : Below w0.heap.size w0 w := M.kept.below hp
theorem U7.keep {φ' : Nat → Prop} {r : U7} (h : r.holds w φ) (ha : J0 φ φ' w w') (hb : ∀ b, r.blk b → w'.heap[b]? = w.heap[b]?) : r.holds w' φ' := by
 cases r with
 | box b cs => obtain ⟨T, h⟩ := h; exact ⟨T, (hb b rfl).trans h⟩
 | row e sz v n xs => exact (Q3.same (lo := 0) (hi := w.heap.size) ⟨h, fun g hg => (World.ownsRow.lt h g hg).2⟩ hb).1
 | dat R => exact ⟨h.1, h.1 _ _ _ _ ha h.2⟩
 | own S R => exact ⟨h.1, h.1 _ _ h.2.1 fun b hs _ => hb b hs, fun b hs => bH5 (h.2.2 b hs) ha.1⟩
theorem A1.call (M : A1 φ ψ w0 w L) (b : Below w.heap.size w w') : A1 φ ψ w0 w' L :=
 ⟨M.kept.trans (C3.of_below b fun _ h _ => h), M.fresh, fun r hr => U7.keep (M.holds r hr) (J0.below b) fun g hg => b.block g (M.lt hr hg), M.dis, M.ge⟩
theorem A1.drew (M : A1 φ ψ w0 w L) : A1 φ ψ w0 w.drew L := M.call (Below.refl _ _).drew
theorem Fr.snoc {r : U7} {b : Nat} : Fr φ (L ++ [r]) b ↔ Fr φ L b ∧ ¬ r.blk b := by
 unfold Fr
 constructor
 ·rintro ⟨h1, h2⟩; exact ⟨⟨h1, fun x hx => h2 x (by simp [hx])⟩, h2 r (by simp)⟩
 ·rintro ⟨⟨h1, h2⟩, h3⟩
  refine ⟨h1, fun x hx => ?_⟩
  simp only [bH6, bH9] at hx
  rcases hx with hx | rfl
  ·exact h2 x hx
  ·exact h3
theorem A1.add (M : A1 φ ψ w0 w L) (b : Below w.heap.size w w') (r : U7) (h : r.holds w' (Fr φ (L ++ [r]))) (hg : ∀ g, r.blk g → w.heap.size ≤ g) : A1 φ ψ w0 w' (L ++ [r]) := by
 have M' := M.call b
 refine ⟨M'.kept, M.fresh, fun x hx => ?_, fun i j x y g hi hj hij hx hy => ?_, fun x g hx hxg => ?_⟩
 ·simp only [bH6, bH9] at hx
  rcases hx with hx | rfl
  ·exact U7.keep (M.holds x hx) ⟨b.size, fun c hc hf => ⟨Fr.snoc.2 ⟨hf, fun he => by have := hg c he; omega⟩, b.block c hc⟩⟩ fun g hgx => b.block g (M.lt hx hgx)
  ·exact h
 ·have lt : ∀ (k : Nat) (z : U7), (L ++ [r])[k]? = some z → (k < L.length ∧ L[k]? = some z) ∨ (k = L.length ∧ z = r) := by
   intro k z hz
   rcases bI0 k L.length with hk | hk
   ·rw [bG9 hk] at hz; exact .inl ⟨hk, hz⟩
   ·rw [bH8 hk] at hz
    have : k - L.length = 0 := by
     rcases Nat.eq_zero_or_pos (k - L.length) with h | h
     ·exact h
     ·rw [bG7 (by rw [List.length_singleton]; exact h)] at hz; cases hz
    rw [this] at hz; simp at hz
    exact .inr ⟨by omega, hz.symm⟩
  rcases lt i x hi with ⟨hi', h1⟩ | ⟨hi', rfl⟩ <;> rcases lt j y hj with ⟨hj', h2⟩ | ⟨hj', rfl⟩
  ·exact M.dis i j x y g h1 h2 hij hx hy
  ·have := M.lt (bG4 h1) hx; have := hg g hy; omega
  ·have := M.lt (bG4 h2) hy; have := hg g hx; omega
  ·omega
 ·simp only [bH6, bH9] at hx
  rcases hx with hx | rfl
  ·exact M.ge x g hx hxg
  ·exact .inl (bH0 M.size (hg g hxg))
theorem A1.box (M : A1 φ ψ w0 w L) (cs : List Value) (T : TypeId) : A1 φ ψ w0 (w.alloc (.cells cs.toArray T)) (L ++ [.box w.heap.size cs]) :=
 M.add ((Below.refl _ _).alloc (bF7 _) _) _ (Blk.new w cs T) fun g hg => by cases hg; exact bF7 _
theorem A1.box' (M : A1 φ ψ w0 w L) (cs : List Value) (T : TypeId) {b : Nat} (hb : b = w.heap.size) : A1 φ ψ w0 (w.alloc (.cells cs.toArray T)) (L ++ [.box b cs]) := by subst hb; exact M.box cs T
theorem A1.dat (M : A1 φ ψ w0 w L) {R : World → (Nat → Prop) → Prop} (hn : af1 R) (h : R w (Fr φ L)) : A1 φ ψ w0 w (L ++ [.dat R]) :=
 M.add (Below.refl _ _) _ ⟨hn, hn _ _ _ _ (J0.mono fun b _ hf => Fr.snoc.2 ⟨hf, fun h => by cases h⟩) h⟩ fun g hg => by cases hg
theorem A1.callR (M : A1 φ ψ w0 w L) (b : Below w.heap.size w w') {e : TypeId} {sz : Nat} {v : Value} {n : Nat} {xs : List Value} (h : w'.ownsRow w.heap.size e sz v n xs) : A1 φ ψ w0 w' (L ++ [.row e sz v n xs]) :=
 M.add b _ (I7 h (bH1 _)) fun g hg => (h.lt g hg).1
theorem A1.nil (M : A1 φ ψ w0 w L) (e : TypeId) (sz : Nat) : A1 φ ψ w0 w (L ++ [.row e sz (.slice none 0 0) 0 []]) :=
 M.add (Below.refl _ _) _ (World.ownsRow_nil _ _ _ _) fun g hg => by cases hg
theorem Fr.set {r : U7} {i : Nat} {a : U7} (_hi : L[i]? = some a) {b : Nat} (h : Fr φ L b) (hr : ¬ r.blk b) : Fr φ (L.set i r) b :=
 ⟨h.1, fun x hx => by
  rcases List.mem_or_eq_of_mem_set hx with hx | rfl
  ·exact h.2 x hx
  ·exact hr⟩
theorem A1.put (M : A1 φ ψ w0 w L) {i : Nat} {a : U7} (hi : L[i]? = some a) (r : U7) (hk : C3 (fun b => ¬ a.blk b) w w') (h : r.holds w' (Fr φ (L.set i r))) (hg : ∀ g, r.blk g → a.blk g ∨ w.heap.size ≤ g) : A1 φ ψ w0 w' (L.set i r) := by
 have hil := (bG0.1 hi).1
 have ha := bG4 hi
 have get : ∀ (j : Nat) (z : U7), (L.set i r)[j]? = some z → (j ≠ i ∧ L[j]? = some z) ∨ (j = i ∧ z = r) := by
  intro j z hz
  by_cases e : j = i
  ·subst e; rw [List.getElem?_set_self hil] at hz; exact .inr ⟨rfl, (Option.some.inj hz).symm⟩
  ·rw [List.getElem?_set_ne (fun h => e h.symm)] at hz; exact .inl ⟨e, hz⟩
 refine ⟨⟨hk.os.trans M.kept.os, hk.tape.trans M.kept.tape, hk.output.trans M.kept.output, bH0 M.size hk.size, fun b hb hp => (hk.block b (bH5 hb M.size) fun he => ?_).trans (M.kept.block b hb hp)⟩, M.fresh, fun x hx => ?_, fun j k x y g hj hk' hjk hx hy => ?_, fun x g hx hxg => ?_⟩
 ·rcases M.ge a b ha he with h' | h'
  ·omega
  ·exact h' hp
 ·obtain ⟨j, hj⟩ := List.mem_iff_getElem?.1 hx
  rcases get j x hj with ⟨hne, hj'⟩ | ⟨_, rfl⟩
  ·refine U7.keep (M.holds x (bG4 hj')) ⟨hk.size, fun b hb hf => ⟨Fr.set hi hf fun he => ?_, hk.block b hb (hf.2 a ha)⟩⟩ fun g hgx => hk.block g (M.lt (bG4 hj') hgx) fun he => M.dis i j a x g hi hj' (fun e => hne e.symm) he hgx
   rcases hg b he with h' | h'
   ·exact hf.2 a ha h'
   ·omega
  ·exact h
 ·rcases get j x hj with ⟨hne, hj'⟩ | ⟨e1, rfl⟩ <;> rcases get k y hk' with ⟨hne', hk''⟩ | ⟨e2, rfl⟩
  ·exact M.dis j k x y g hj' hk'' hjk hx hy
  ·rcases hg g hy with h' | h'
   ·exact M.dis j i x a g hj' hi hne hx h'
   ·have := M.lt (bG4 hj') hx; omega
  ·rcases hg g hx with h' | h'
   ·exact M.dis i k a y g hi hk'' (fun e => hne' e.symm) h' hy
   ·have := M.lt (bG4 hk'') hy; omega
  ·omega
 ·obtain ⟨j, hj⟩ := List.mem_iff_getElem?.1 hx
  rcases get j x hj with ⟨hne, hj'⟩ | ⟨_, rfl⟩
  ·exact M.ge x g (bG4 hj') hxg
  ·rcases hg g hxg with h' | h'
   ·exact M.ge a g ha h'
   ·exact .inl (bH0 M.size h')
theorem C3.mono {ψ ψ' : Nat → Prop} {w w' : World} (h : C3 ψ w w') (hp : ∀ b, ψ' b → ψ b) : C3 ψ' w w' := ⟨h.os, h.tape, h.output, h.size, fun b hb hp' => h.block b hb (hp b hp')⟩
theorem C3.setCell (w : World) (b j : Nat) (u : Value) : C3 (fun c => ¬ c = b) w (w.setCell ⟨b, j, none⟩ u) :=
 ⟨rfl, rfl, rfl, by simp [World.setCell], fun c _ hc => Below.heap_setCell _ _ _ _ hc⟩
theorem A1.set (M : A1 φ ψ w0 w L) (i : Nat) {b : Nat} {cs : List Value} (hi : L[i]? = some (.box b cs)) (j : Nat) (u : Value) : A1 φ ψ w0 (w.setCell ⟨b, j, none⟩ u) (L.set i (.box b (cs.set j u))) :=
 M.put hi _ (C3.setCell w b j u) (Blk.set (M.holds _ (bG4 hi)) u) fun _ hg => .inl hg
theorem A1.setFrom (us : List Value) : ∀ {w : World} {L : List U7} {p : Nat} {cs : List Value}, A1 φ ψ w0 w L → ∀ (i : Nat) {b : Nat}, L[i]? = some (.box b cs) → A1 φ ψ w0 (World.setFrom w b p us) (L.set i (.box b (Go.Proofs.YthikdkjjdeehoaaGreat.setFrom cs p us))) := by
 induction us with
 | nil =>
  intro w L p cs M i b hi
  have : L.set i (.box b cs) = L := by
   apply List.ext_getElem?
   intro j
   rw [List.getElem?_set]
   split
   ·rename_i e; subst e; rw [if_pos (bG0.1 hi).1, hi]
   ·rfl
  show A1 φ ψ w0 w (L.set i (.box b cs))
  rw [this]; exact M
 | cons u r ih =>
  intro w L p cs M i b hi
  have h1 := M.set i hi p u
  have h2 := ih (p := p + 1) h1 i (by rw [List.getElem?_set_self (bG0.1 hi).1])
  rw [List.set_set] at h2
  exact h2
theorem aR6 {cs us : List Value} (h : us.length = cs.length) : Go.Proofs.YthikdkjjdeehoaaGreat.setFrom cs 0 us = us := by
 have h1 := V8 us cs 0 (by omega)
 rw [bI5, bF8 (by rw [J2]; omega)] at h1
 simpa using h1
theorem A1.fill (M : A1 φ ψ w0 w L) (i : Nat) {b : Nat} {cs : List Value} (hi : L[i]? = some (.box b cs)) (us : List Value) (h : us.length = cs.length) : A1 φ ψ w0 (World.setFrom w b 0 us) (L.set i (.box b us)) := by
 have h1 := M.setFrom us (p := 0) i hi
 rwa [aR6 h] at h1
theorem A1.callB (M : A1 φ ψ w0 w L) (i : Nat) {b : Nat} {cs cs' : List Value} (hi : L[i]? = some (.box b cs)) (hk : C3 (fun c => ¬ c = b) w w') (h : Blk w' b cs') : A1 φ ψ w0 w' (L.set i (.box b cs')) :=
 M.put hi _ hk h fun _ hg => .inl hg
theorem A1.rowSet (M : A1 φ ψ w0 w L) (i : Nat) {e : TypeId} {sz n cap g : Nat} {xs : List Value} (hi : L[i]? = some (.row e sz (.slice (some ⟨g, 0, none⟩) n cap) n xs)) {j : Nat} (hj : j < xs.length) (u : Value) :
  A1 φ ψ w0 (w.setCell ⟨g, j, none⟩ u) (L.set i (.row e sz (.slice (some ⟨g, 0, none⟩) n cap) n (xs.set j u))) :=
 M.put hi _ ((C3.setCell w g j u).mono fun b hb e => hb (by rw [e]; rfl)) (Q3.setCell (Q3.mk' (M.holds _ (bG4 hi))) hj u).1 fun _ hg => .inl hg
theorem A1.app (M : A1 φ ψ w0 w L) (i : Nat) {e : TypeId} {sz : Nat} {v v' : Value} {n n' : Nat} {xs xs' : List Value} (hi : L[i]? = some (.row e sz v n xs)) (h : w'.ownsRow 0 e sz v' n' xs') (hg : w.grownBy w' v.ownBlock) (hb : ∀ g, v'.ownBlock = some g → v.ownBlock = some g ∨ w.heap.size ≤ g) :
  A1 φ ψ w0 w' (L.set i (.row e sz v' n' xs')) :=
 M.put hi _ ⟨hg.os, hg.tape, hg.output, hg.size, fun b hb hn => hg.block b hb fun h => hn h.symm⟩ h hb
theorem A1.callO (M : A1 φ ψ w0 w L) (b : Below w.heap.size w w') {S : Nat → Prop} {R : World → Prop} (hR : ∀ w w', R w → (∀ b, S b → b < w.heap.size → w'.heap[b]? = w.heap[b]?) → R w') (h : R w') (hs : ∀ b, S b → w.heap.size ≤ b ∧ b < w'.heap.size) : A1 φ ψ w0 w' (L ++ [.own S R]) :=
 M.add b _ ⟨hR, h, fun b hb => (hs b hb).2⟩ fun g hg => (hs g hg).1
theorem A1.turn (M : A1 φ ψ w0 w L) (i : Nat) {S : Nat → Prop} {R R' : World → Prop} (hi : L[i]? = some (.own S R)) (hk : C3 (fun b => ¬ S b) w w') (hR : ∀ w w', R' w → (∀ b, S b → b < w.heap.size → w'.heap[b]? = w.heap[b]?) → R' w') (h : R' w') : A1 φ ψ w0 w' (L.set i (.own S R')) :=
 M.put hi _ hk ⟨hR, h, fun b hb => bH5 ((M.holds _ (bG4 hi)).2.2 b hb) hk.size⟩ fun _ hg => .inl hg
theorem A1.o (M : A1 φ ψ w0 w L) (i : Nat) {S : Nat → Prop} {R : World → Prop} (hi : L[i]? = some (.own S R)) : R w := (M.holds _ (bG4 hi)).2.1
theorem A1.take (M : A1 φ ψ w0 w L) (k : Nat) : A1 φ ψ w0 w (L.take k) :=
 ⟨M.kept, M.fresh, fun r hr => U7.keep (M.holds r (List.mem_of_mem_take hr)) (J0.mono fun _ _ hf => ⟨hf.1, fun x hx => hf.2 x (List.mem_of_mem_take hx)⟩) fun _ _ => rfl,
  fun i j a b g hi hj hij => M.dis i j a b g (by rw [List.getElem?_take] at hi; split at hi; exact hi; cases hi) (by rw [List.getElem?_take] at hj; split at hj; exact hj; cases hj) hij, fun r b hr => M.ge r b (List.mem_of_mem_take hr)⟩
theorem A1.sel (M : A1 φ ψ w0 w L) (is : List Nat) (L' : List U7) (h : L'.map some = is.map fun i => L[i]?) (hn : is.Nodup) : A1 φ ψ w0 w L' := by
 have hl : L'.length = is.length := by simpa using congrArg List.length h
 have get : ∀ (j : Nat) (r : U7), L'[j]? = some r → ∃ i, is[j]? = some i ∧ L[i]? = some r := by
  intro j r hj
  have h1 : (L'.map some)[j]? = some (some r) := by simp [hj]
  rw [h, List.getElem?_map] at h1
  cases hi : is[j]? with
  | none => rw [hi] at h1; cases h1
  | some i => rw [hi] at h1; exact ⟨i, rfl, Option.some.inj h1⟩
 have mem : ∀ r, r ∈ L' → r ∈ L := fun r hr => by
  obtain ⟨j, hj⟩ := List.mem_iff_getElem?.1 hr
  obtain ⟨i, _, hi⟩ := get j r hj
  exact bG4 hi
 refine ⟨M.kept, M.fresh, fun r hr => U7.keep (M.holds r (mem r hr)) (J0.mono fun _ _ hf => ⟨hf.1, fun x hx => hf.2 x (mem x hx)⟩) fun _ _ => rfl, fun j k a b g hj hk hjk ha hb => ?_, fun r b hr => M.ge r b (mem r hr)⟩
 obtain ⟨i1, e1, h1⟩ := get j a hj
 obtain ⟨i2, e2, h2⟩ := get k b hk
 refine M.dis i1 i2 a b g h1 h2 (fun e => hjk ?_) ha hb
 subst e
 have hlt := (bG0.1 e1).1
 exact (List.getElem?_inj hlt hn).1 (e1.trans e2.symm)
theorem A1.c (M : A1 φ ψ w0 w L) (i j : Nat) {b : Nat} {cs : List Value} {u : Value} (hi : L[i]? = some (.box b cs)) (hj : cs[j]? = some u) : w.cell? ⟨b, j, none⟩ = some u :=
 (Blk.cell (M.holds _ (bG4 hi)) j).trans hj
theorem A1.f (M : A1 φ ψ w0 w L) (i : Nat) {b : Nat} {cs : List Value} (hi : L[i]? = some (.box b cs)) : ∀ j, w.frozen? ⟨b, j, none⟩ = false := Blk.free (M.holds _ (bG4 hi))
theorem A1.blk (M : A1 φ ψ w0 w L) (i : Nat) {b : Nat} {cs : List Value} (hi : L[i]? = some (.box b cs)) : Blk w b cs := M.holds _ (bG4 hi)
theorem A1.r (M : A1 φ ψ w0 w L) (i : Nat) {e : TypeId} {sz : Nat} {v : Value} {n : Nat} {xs : List Value} (hi : L[i]? = some (.row e sz v n xs)) : w.ownsRow 0 e sz v n xs := M.holds _ (bG4 hi)
theorem A1.d (M : A1 φ ψ w0 w L) (i : Nat) {R : World → (Nat → Prop) → Prop} (hi : L[i]? = some (.dat R)) : R w (Fr φ L) := (M.holds _ (bG4 hi)).2
theorem A1.dn (M : A1 φ ψ w0 w L) (i : Nat) {R : World → (Nat → Prop) → Prop} (hi : L[i]? = some (.dat R)) : af1 R := (M.holds _ (bG4 hi)).1
theorem A1.out (M : A1 φ ψ w0 w L) (i : Nat) {R : World → (Nat → Prop) → Prop} (hi : L[i]? = some (.dat R)) : R w φ := M.dn i hi _ _ _ _ (J0.mono fun _ _ hf => hf.1) (M.d i hi)
theorem A1.as (M : A1 φ ψ w0 w L) (L' : List U7) (h : L = L') : A1 φ ψ w0 w L' := h ▸ M
end
inductive Rs where
 | box (b : Nat) (cs : List Value)
 | row (e : TypeId) (sz : Nat) (v : Value) (n : Nat) (R : List Value → World → (Nat → Prop) → Prop)
 | dat (R : World → (Nat → Prop) → Prop)
 | own (S : Nat → Prop) (R : World → Prop)
def Rs.none : Rs := .dat fun _ _ => True
def Rs.blk : Rs → Nat → Prop
 | .box b _ => fun g => g = b
 | .row _ _ v _ _ => fun g => v.ownBlock = some g
 | .dat _ => fun _ => False
 | .own S _ => S
def X0 {ι : Type} (φ : Nat → Prop) (L : ι → Rs) (b : Nat) : Prop := φ b ∧ ∀ i, ¬ (L i).blk b
def Rs.holds (w : World) (φ : Nat → Prop) : Rs → Prop
 | .box b cs => Blk w b cs
 | .row e sz v n R => (∀ xs, af1 (R xs)) ∧ ∃ xs, w.ownsRow 0 e sz v n xs ∧ R xs w φ
 | .dat R => af1 R ∧ R w φ
 | .own S R => (∀ w w', R w → (∀ b, S b → b < w.heap.size → w'.heap[b]? = w.heap[b]?) → R w') ∧ R w ∧ ∀ b, S b → b < w.heap.size
theorem a99 : af1 fun _ _ => True := fun _ _ _ _ _ h => h
theorem Rs.none_holds (w : World) (φ : Nat → Prop) : Rs.none.holds w φ := ⟨a99, bF3⟩
structure n9 {ι : Type} (φ ψ : Nat → Prop) (w0 w : World) (L : ι → Rs) : Prop where
 kept : C3 ψ w0 w
 fresh : ∀ b, w0.heap.size ≤ b → φ b
 holds : ∀ i, (L i).holds w (X0 φ L)
 dis : ∀ i j g, i ≠ j → (L i).blk g → ¬ (L j).blk g
 ge : ∀ i b, (L i).blk b → w0.heap.size ≤ b ∨ ¬ ψ b
 ph : ∀ i b, (L i).blk b → φ b
section
variable {ι κ : Type} {φ ψ : Nat → Prop} {w0 w w' : World} {L : ι → Rs}
theorem Rs.lt {r : Rs} (h : r.holds w φ) {b : Nat} (hb : r.blk b) : b < w.heap.size := by
 cases r with
 | box b' cs => cases hb; exact Blk.lt h
 | row e sz v n R => obtain ⟨_, xs, h1, _⟩ := h; exact (World.ownsRow.lt h1 b hb).2
 | dat R => cases hb
 | own S R => exact h.2.2 b hb
theorem n9.lt (M : n9 φ ψ w0 w L) {i : ι} {b : Nat} (hb : (L i).blk b) : b < w.heap.size := Rs.lt (M.holds i) hb
theorem n9.size (M : n9 φ ψ w0 w L) : w0.heap.size ≤ w.heap.size := M.kept.size
theorem n9.frFresh (M : n9 φ ψ w0 w L) : ∀ b, w.heap.size ≤ b → X0 φ L b := fun b hb => ⟨M.fresh b (bH0 M.size hb), fun i he => by have := M.lt he; omega⟩
theorem Rs.keep {φ' : Nat → Prop} {r : Rs} (h : r.holds w φ) (ha : J0 φ φ' w w') (hb : ∀ b, r.blk b → w'.heap[b]? = w.heap[b]?) : r.holds w' φ' := by
 cases r with
 | box b cs => obtain ⟨T, h⟩ := h; exact ⟨T, (hb b rfl).trans h⟩
 | row e sz v n R =>
  obtain ⟨hn, xs, h1, h2⟩ := h
  exact ⟨hn, xs, (Q3.same (lo := 0) (hi := w.heap.size) ⟨h1, fun g hg => (World.ownsRow.lt h1 g hg).2⟩ hb).1, hn xs _ _ _ _ ha h2⟩
 | dat R => exact ⟨h.1, h.1 _ _ _ _ ha h.2⟩
 | own S R => exact ⟨h.1, h.1 _ _ h.2.1 fun b hs _ => hb b hs, fun b hs => bH5 (h.2.2 b hs) ha.1⟩
theorem n9.call (M : n9 φ ψ w0 w L) (b : Below w.heap.size w w') : n9 φ ψ w0 w' L :=
 ⟨M.kept.trans (C3.of_below b fun _ h _ => h), M.fresh, fun i => Rs.keep (M.holds i) (J0.below b) fun g hg => b.block g (M.lt hg), M.dis, M.ge, M.ph⟩
theorem n9.drew (M : n9 φ ψ w0 w L) : n9 φ ψ w0 w.drew L := M.call (Below.refl _ _).drew
theorem n9.put (M : n9 φ ψ w0 w L) (i : ι) {L' : ι → Rs} (ho : ∀ j, j ≠ i → L' j = L j) (hk : C3 (fun b => ¬ (L i).blk b) w w') (h : (L' i).holds w' (X0 φ L')) (hg : ∀ g, (L' i).blk g → (L i).blk g ∨ w.heap.size ≤ g) : n9 φ ψ w0 w' L' := by
 have hfr : ∀ b, b < w.heap.size → X0 φ L b → X0 φ L' b := fun b hb hf => ⟨hf.1, fun j hj => by
  by_cases e : j = i
  ·subst e
   rcases hg b hj with h | h
   ·exact hf.2 _ h
   ·omega
  ·rw [ho j e] at hj; exact hf.2 _ hj⟩
 refine ⟨⟨hk.os.trans M.kept.os, hk.tape.trans M.kept.tape, hk.output.trans M.kept.output, bH0 M.size hk.size, fun b hb hp => (hk.block b (bH5 hb M.size) fun he => ?_).trans (M.kept.block b hb hp)⟩, M.fresh, fun j => ?_, fun j k g hjk hj hk' => ?_, fun j b hj => ?_, fun j b hj => ?_⟩
 ·rcases M.ge i b he with h' | h'
  ·omega
  ·exact h' hp
 ·by_cases e : j = i
  ·subst e; exact h
  ·rw [ho j e]
   exact Rs.keep (M.holds j) ⟨hk.size, fun b hb hf => ⟨hfr b hb hf, hk.block b hb (hf.2 i)⟩⟩ fun g hgx => hk.block g (M.lt hgx) fun he => M.dis j i g e hgx he
 ·by_cases e : j = i
  ·subst e
   rw [ho k (fun e => hjk e.symm)] at hk'
   rcases hg g hj with h' | h'
   ·exact M.dis _ _ g hjk h' hk'
   ·have := M.lt hk'; omega
  ·rw [ho j e] at hj
   by_cases e' : k = i
   ·subst e'
    rcases hg g hk' with h' | h'
    ·exact M.dis _ _ g hjk hj h'
    ·have := M.lt hj; omega
   ·rw [ho k e'] at hk'; exact M.dis _ _ g hjk hj hk'
 ·by_cases e : j = i
  ·subst e
   rcases hg b hj with h' | h'
   ·exact M.ge _ b h'
   ·exact .inl (bH0 M.size h')
  ·rw [ho j e] at hj; exact M.ge _ b hj
 ·by_cases e : j = i
  ·subst e
   rcases hg b hj with h' | h'
   ·exact M.ph _ b h'
   ·exact M.fresh b (bH0 M.size h')
  ·rw [ho j e] at hj; exact M.ph _ b hj
theorem n9.map (M : n9 φ ψ w0 w L) {L' : κ → Rs} (g : κ → Option ι) (hi : ∀ k k' i, g k = some i → g k' = some i → k = k') (h : ∀ k, (∃ i, g k = some i ∧ L' k = L i) ∨ L' k = Rs.none) : n9 φ ψ w0 w L' := by
 have hb : ∀ k b, (L' k).blk b → ∃ i, g k = some i ∧ L' k = L i := fun k b hb => by
  rcases h k with h | h
  ·exact h
  ·rw [h] at hb; exact hb.elim
 have hfr : ∀ b, X0 φ L b → X0 φ L' b := fun b hf => ⟨hf.1, fun k hk => by
  obtain ⟨i, _, e⟩ := hb k b hk
  rw [e] at hk; exact hf.2 i hk⟩
 refine ⟨M.kept, M.fresh, fun k => ?_, fun k k' b hkk h1 h2 => ?_, fun k b h1 => ?_, fun k b h1 => ?_⟩
 ·rcases h k with ⟨i, _, e⟩ | e
  ·rw [e]; exact Rs.keep (M.holds i) (J0.mono fun b _ hf => hfr b hf) fun _ _ => rfl
  ·rw [e]; exact Rs.none_holds _ _
 ·obtain ⟨i, e1, e2⟩ := hb k b h1
  obtain ⟨j, f1, f2⟩ := hb k' b h2
  rw [e2] at h1; rw [f2] at h2
  exact M.dis i j b (fun e => hkk (hi k k' i e1 (e ▸ f1))) h1 h2
 ·obtain ⟨i, _, e2⟩ := hb k b h1
  rw [e2] at h1; exact M.ge i b h1
 ·obtain ⟨i, _, e2⟩ := hb k b h1
  rw [e2] at h1; exact M.ph i b h1
theorem n9.start (hf : ∀ b, w0.heap.size ≤ b → φ b) : n9 φ ψ w0 w0 (fun _ : ι => Rs.none) := ⟨C3.refl _ _, hf, fun _ => Rs.none_holds _ _, fun _ _ _ _ h => h.elim, fun _ _ h => h.elim, fun _ _ h => h.elim⟩
theorem n9.below (M : n9 φ ψ w0 w L) (hp : ∀ b, b < w0.heap.size → ψ b) : Below w0.heap.size w0 w := M.kept.below hp
end
end Go.Proofs.YthikdkjjdeehoaaGreat

namespace Go.Proofs.YthikdkjjdeehoaaGreat
set_option linter.unusedVariables false
set_option linter.unusedSimpArgs false
inductive b5 where
 | mk (kind value : Int) (kids : List b5)
def b5.kind : b5 → Int | ⟨k, _, _⟩ => k
def b5.value : b5 → Int | ⟨_, n, _⟩ => n
def b5.kids : b5 → List b5 | ⟨_, _, ks⟩ => ks
inductive b6 where
 | mk (kind target : Int) (index value : b5) (count : Int) (body els : List b6)
def b6.kind : b6 → Int | ⟨k, _, _, _, _, _, _⟩ => k
def b6.target : b6 → Int | ⟨_, t, _, _, _, _, _⟩ => t
def b6.index : b6 → b5 | ⟨_, _, i, _, _, _, _⟩ => i
def b6.value : b6 → b5 | ⟨_, _, _, v, _, _, _⟩ => v
def b6.count : b6 → Int | ⟨_, _, _, _, c, _, _⟩ => c
def b6.body : b6 → List b6 | ⟨_, _, _, _, _, b, _⟩ => b
def b6.els : b6 → List b6 | ⟨_, _, _, _, _, _, e⟩ => e
structure b9 where
 vars : List Int
 arrays : List Int
 body : List b6
mutual
theorem b5.ind {P : b5 → Prop} (h : ∀ k n ks, (∀ e ∈ ks, P e) → P ⟨k, n, ks⟩) : ∀ e : b5, P e
 | ⟨k, n, ks⟩ => h k n ks (b5.indL h ks)
theorem b5.indL {P : b5 → Prop} (h : ∀ k n ks, (∀ e ∈ ks, P e) → P ⟨k, n, ks⟩) : ∀ ks : List b5, ∀ e ∈ ks, P e
 | [] => fun _ hm => by cases hm
 | a :: r => fun _ hm => (bI7.1 hm).elim (fun he => he ▸ b5.ind h a) fun hm => b5.indL h r _ hm
end
mutual
theorem b6.ind {P : b6 → Prop} (h : ∀ k t i v c b e, (∀ s ∈ b, P s) → (∀ s ∈ e, P s) → P ⟨k, t, i, v, c, b, e⟩) : ∀ s : b6, P s
 | ⟨k, t, i, v, c, b, e⟩ => h k t i v c b e (b6.indL h b) (b6.indL h e)
theorem b6.indL {P : b6 → Prop} (h : ∀ k t i v c b e, (∀ s ∈ b, P s) → (∀ s ∈ e, P s) → P ⟨k, t, i, v, c, b, e⟩) : ∀ ss : List b6, ∀ s ∈ ss, P s
 | [] => fun _ hm => by cases hm
 | a :: r => fun _ hm => (bI7.1 hm).elim (fun he => he ▸ b6.ind h a) fun hm => b6.indL h r _ hm
end
mutual
def t8 : b5 → Nat
 | ⟨_, _, ks⟩ => n7 ks
def n7 : List b5 → Nat
 | [] => 0
 | e :: r => 1 + t8 e + n7 r
end
mutual
def K6 : b6 → Nat
 | ⟨_, _, i, v, _, b, e⟩ => t8 i + t8 v + l7 b + l7 e
def l7 : List b6 → Nat
 | [] => 0
 | s :: r => 1 + K6 s + l7 r
end
def b9.size (p : b9) : Nat := p.vars.length + p.arrays.length + l7 p.body
theorem L5 (a b : List b5) : n7 (a ++ b) = n7 a + n7 b := by
 induction a with
 | nil => simp [n7]
 | cons x r ih => simp [n7, ih]; omega
theorem A8 (a b : List b6) : l7 (a ++ b) = l7 a + l7 b := by
 induction a with
 | nil => simp [l7]
 | cons x r ih => simp [l7, ih]; omega
theorem T3 (a : List b5) : a.length ≤ n7 a := by
 induction a with
 | nil => simp
 | cons x r ih => simp only [n7, bF0]; omega
theorem E2 (a : List b6) : a.length ≤ l7 a := by
 induction a with
 | nil => simp
 | cons x r ih => simp only [l7, bF0]; omega
theorem aL6 {e : b5} {ks : List b5} (h : e ∈ ks) : t8 e < n7 ks := by
 induction ks with
 | nil => cases h
 | cons x r ih =>
  simp only [n7]
  rcases bI7.1 h with rfl | h
  ·omega
  ·have := ih h; omega
theorem J5 {s : b6} {ss : List b6} (h : s ∈ ss) : K6 s < l7 ss := by
 induction ss with
 | nil => cases h
 | cons x r ih =>
  simp only [l7]
  rcases bI7.1 h with rfl | h
  ·omega
  ·have := ih h; omega
mutual
def ab7 : b5 → b5 → Bool
 | ⟨k, n, ks⟩, ⟨k', n', ks'⟩ => decide (k = k') && decide (n = n') && P3 ks ks'
def P3 : List b5 → List b5 → Bool
 | [], [] => true
 | e :: r, e' :: r' => ab7 e e' && P3 r r'
 | _, _ => false
end
mutual
def aC0 : b6 → b6 → Bool
 | ⟨k, t, i, v, c, b, e⟩, ⟨k', t', i', v', c', b', e'⟩ => decide (k = k') && decide (t = t') && ab7 i i' && ab7 v v' && decide (c = c') && I6 b b' && I6 e e'
def I6 : List b6 → List b6 → Bool
 | [], [] => true
 | s :: r, s' :: r' => aC0 s s' && I6 r r'
 | _, _ => false
end
mutual
theorem ag7 : ∀ (a b : b5), ab7 a b = true ↔ a = b
 | ⟨k, n, ks⟩, ⟨k', n', ks'⟩ => by
  simp only [ab7, bE9, decide_eq_true_eq, b5.mk.injEq, ab6 ks ks', and_assoc]
theorem ab6 : ∀ (a b : List b5), P3 a b = true ↔ a = b
 | [], [] => by simp [P3]
 | [], _ :: _ => by simp [P3]
 | _ :: _, [] => by simp [P3]
 | e :: r, e' :: r' => by simp only [P3, bE9, List.cons.injEq, ag7 e e', ab6 r r']
end
mutual
theorem aB9 : ∀ (a b : b6), aC0 a b = true ↔ a = b
 | ⟨k, t, i, v, c, b, e⟩, ⟨k', t', i', v', c', b', e'⟩ => by
  simp only [aC0, bE9, decide_eq_true_eq, b6.mk.injEq, ag7 i i', ag7 v v', R5 b b', R5 e e', and_assoc]
theorem R5 : ∀ (a b : List b6), I6 a b = true ↔ a = b
 | [], [] => by simp [I6]
 | [], _ :: _ => by simp [I6]
 | _ :: _, [] => by simp [I6]
 | e :: r, e' :: r' => by simp only [I6, bE9, List.cons.injEq, aB9 e e', R5 r r']
end
def b9.same (p q : b9) : Bool := decide (p.vars = q.vars) && decide (p.arrays = q.arrays) && I6 p.body q.body
theorem b9.same_eq {p q : b9} : p.same q = true ↔ p = q := by
 cases p; cases q
 simp only [b9.same, bE9, decide_eq_true_eq, b9.mk.injEq, R5, and_assoc]
theorem aZ7 {a b : List b5} (h : a.length ≠ b.length) : P3 a b = false := by
 cases hs : P3 a b
 ·rfl
 ·exact absurd (congrArg List.length ((ab6 a b).1 hs)) h
theorem aZ6 {a b : List b6} (h : a.length ≠ b.length) : I6 a b = false := by
 cases hs : I6 a b
 ·rfl
 ·exact absurd (congrArg List.length ((R5 a b).1 hs)) h
mutual
def mkE : b5 → Int → b5
 | ⟨_, _, ks⟩, k => ⟨k, k + 1, aa7 ks (k + 2)⟩
def aa7 : List b5 → Int → List b5
 | [], _ => []
 | e :: r, k => mkE e k :: aa7 r (k + 2 + 2 * t8 e)
end
mutual
def mkS : b6 → Int → b6
 | ⟨_, _, i, v, _, b, e⟩, k => ⟨k, k + 1, mkE i (k + 2), mkE v (k + 4 + 2 * t8 i), k + 6 + 2 * t8 i + 2 * t8 v, ac1 b (k + 7 + 2 * t8 i + 2 * t8 v), ac1 e (k + 7 + 2 * t8 i + 2 * t8 v + Z9 b)⟩
def ac1 : List b6 → Int → List b6
 | [], _ => []
 | s :: r, k => mkS s k :: ac1 r (k + aT6 s)
def aT6 : b6 → Int
 | ⟨_, _, i, v, _, b, e⟩ => 7 + 2 * t8 i + 2 * t8 v + Z9 b + Z9 e
def Z9 : List b6 → Int
 | [] => 0
 | s :: r => aT6 s + Z9 r
end
end Go.Proofs.YthikdkjjdeehoaaGreat

namespace Go.Proofs.YthikdkjjdeehoaaGreat
set_option linter.unusedVariables false
set_option linter.unusedSimpArgs false
open Go Go.RowKit
section
mutual
def L8 (w : World) (φ : Nat → Prop) : b5 → List Value → Prop
 | ⟨k, n, ks⟩, cs => ∃ v xs, cs = [.int .i64 k, .int .i64 n, v] ∧ D9 w φ v ks.length 3 xs ∧ C5 w φ ks xs
def C5 (w : World) (φ : Nat → Prop) : List b5 → List Value → Prop
 | [], xs => xs = []
 | e :: r, xs => ∃ c ys, xs = c ++ ys ∧ L8 w φ e c ∧ C5 w φ r ys
end
def p8 (w : World) (φ : Nat → Prop) (v : Value) (ks : List b5) : Prop := ∃ xs, D9 w φ v ks.length 3 xs ∧ C5 w φ ks xs
def I9 (w : World) (φ : Nat → Prop) (v : Value) (e : b5) : Prop := ∃ kv, v = .agg #[.int .i64 e.kind, .int .i64 e.value, kv] ∧ p8 w φ kv e.kids
mutual
def L1 (w : World) (φ : Nat → Prop) : b6 → List Value → Prop
 | ⟨k, t, i, v, c, b, e⟩, cs => ∃ iv vv bv ev xb xe, cs = [.int .i64 k, .int .i64 t, .int .i64 i.kind, .int .i64 i.value, iv, .int .i64 v.kind, .int .i64 v.value, vv, .int .i64 c, bv, ev] ∧
   p8 w φ iv i.kids ∧ p8 w φ vv v.kids ∧ D9 w φ bv b.length 11 xb ∧ B9 w φ b xb ∧ D9 w φ ev e.length 11 xe ∧ B9 w φ e xe
def B9 (w : World) (φ : Nat → Prop) : List b6 → List Value → Prop
 | [], xs => xs = []
 | s :: r, xs => ∃ c ys, xs = c ++ ys ∧ L1 w φ s c ∧ B9 w φ r ys
end
def s0 (w : World) (φ : Nat → Prop) (v : Value) (ss : List b6) : Prop := ∃ xs, D9 w φ v ss.length 11 xs ∧ B9 w φ ss xs
def N5 (w : World) (φ : Nat → Prop) (v : Value) (s : b6) : Prop :=
 ∃ iv vv bv ev, v = .agg #[.int .i64 s.kind, .int .i64 s.target, .int .i64 s.index.kind, .int .i64 s.index.value, iv, .int .i64 s.value.kind, .int .i64 s.value.value, vv, .int .i64 s.count, bv, ev] ∧
  p8 w φ iv s.index.kids ∧ p8 w φ vv s.value.kids ∧ s0 w φ bv s.body ∧ s0 w φ ev s.els
def af7 (w : World) (φ : Nat → Prop) (v : Value) (p : b9) : Prop :=
 ∃ v1 v2 v3, v = .agg #[v1, v2, v3] ∧ D9 w φ v1 p.vars.length 1 (ints p.vars) ∧ D9 w φ v2 p.arrays.length 1 (ints p.arrays) ∧ s0 w φ v3 p.body
variable {w w' : World} {φ φ' : Nat → Prop}
mutual
theorem L8.agr (ha : J0 φ φ' w w') : ∀ (e : b5) (cs : List Value), L8 w φ e cs → L8 w' φ' e cs
 | ⟨_, _, ks⟩, _, ⟨v, xs, h1, h2, h3⟩ => ⟨v, xs, h1, D9.nice _ _ _ _ _ _ _ _ ha h2, C5.agr ha ks xs h3⟩
theorem C5.agr (ha : J0 φ φ' w w') : ∀ (ks : List b5) (xs : List Value), C5 w φ ks xs → C5 w' φ' ks xs
 | [], _, h => h
 | e :: r, _, ⟨c, ys, h1, h2, h3⟩ => ⟨c, ys, h1, L8.agr ha e c h2, C5.agr ha r ys h3⟩
end
theorem C5.nice (ks : List b5) (xs : List Value) : af1 fun w φ => C5 w φ ks xs := fun _ _ _ _ ha h => C5.agr ha ks xs h
theorem p8.nice (v : Value) (ks : List b5) : af1 fun w φ => p8 w φ v ks := fun _ _ _ _ ha ⟨xs, h1, h2⟩ => ⟨xs, D9.nice _ _ _ _ _ _ _ _ ha h1, C5.agr ha ks xs h2⟩
theorem I9.nice (v : Value) (e : b5) : af1 fun w φ => I9 w φ v e := fun _ _ _ _ ha ⟨kv, h1, h2⟩ => ⟨kv, h1, p8.nice _ _ _ _ _ _ ha h2⟩
mutual
theorem L1.agr (ha : J0 φ φ' w w') : ∀ (s : b6) (cs : List Value), L1 w φ s cs → L1 w' φ' s cs
 | ⟨_, _, _, _, _, b, e⟩, _, ⟨iv, vv, bv, ev, xb, xe, h1, h2, h3, h4, h5, h6, h7⟩ =>
  ⟨iv, vv, bv, ev, xb, xe, h1, p8.nice _ _ _ _ _ _ ha h2, p8.nice _ _ _ _ _ _ ha h3, D9.nice _ _ _ _ _ _ _ _ ha h4, B9.agr ha b xb h5, D9.nice _ _ _ _ _ _ _ _ ha h6, B9.agr ha e xe h7⟩
theorem B9.agr (ha : J0 φ φ' w w') : ∀ (ss : List b6) (xs : List Value), B9 w φ ss xs → B9 w' φ' ss xs
 | [], _, h => h
 | s :: r, _, ⟨c, ys, h1, h2, h3⟩ => ⟨c, ys, h1, L1.agr ha s c h2, B9.agr ha r ys h3⟩
end
theorem B9.nice (ss : List b6) (xs : List Value) : af1 fun w φ => B9 w φ ss xs := fun _ _ _ _ ha h => B9.agr ha ss xs h
theorem s0.nice (v : Value) (ss : List b6) : af1 fun w φ => s0 w φ v ss := fun _ _ _ _ ha ⟨xs, h1, h2⟩ => ⟨xs, D9.nice _ _ _ _ _ _ _ _ ha h1, B9.agr ha ss xs h2⟩
theorem N5.nice (v : Value) (s : b6) : af1 fun w φ => N5 w φ v s := fun _ _ _ _ ha ⟨iv, vv, bv, ev, h1, h2, h3, h4, h5⟩ =>
 ⟨iv, vv, bv, ev, h1, p8.nice _ _ _ _ _ _ ha h2, p8.nice _ _ _ _ _ _ ha h3, s0.nice _ _ _ _ _ _ ha h4, s0.nice _ _ _ _ _ _ ha h5⟩
theorem af7.nice (v : Value) (p : b9) : af1 fun w φ => af7 w φ v p := fun _ _ _ _ ha ⟨v1, v2, v3, h1, h2, h3, h4⟩ =>
 ⟨v1, v2, v3, h1, D9.nice _ _ _ _ _ _ _ _ ha h2, D9.nice _ _ _ _ _ _ _ _ ha h3, s0.nice _ _ _ _ _ _ ha h4⟩
theorem L8.iff (e : b5) (cs : List Value) : L8 w φ e cs ↔ ∃ kv, cs = [.int .i64 e.kind, .int .i64 e.value, kv] ∧ p8 w φ kv e.kids := by
 cases e with
 | mk k n ks => exact ⟨fun ⟨v, xs, h1, h2, h3⟩ => ⟨v, h1, xs, h2, h3⟩, fun ⟨v, h1, xs, h2, h3⟩ => ⟨v, xs, h1, h2, h3⟩⟩
theorem L1.iff (s : b6) (cs : List Value) : L1 w φ s cs ↔ ∃ iv vv bv ev, cs = [.int .i64 s.kind, .int .i64 s.target, .int .i64 s.index.kind, .int .i64 s.index.value, iv, .int .i64 s.value.kind, .int .i64 s.value.value, vv, .int .i64 s.count, bv, ev] ∧
  p8 w φ iv s.index.kids ∧ p8 w φ vv s.value.kids ∧ s0 w φ bv s.body ∧ s0 w φ ev s.els := by
 cases s with
 | mk k t i v c b e =>
  exact ⟨fun ⟨iv, vv, bv, ev, xb, xe, h1, h2, h3, h4, h5, h6, h7⟩ => ⟨iv, vv, bv, ev, h1, h2, h3, ⟨xb, h4, h5⟩, ⟨xe, h6, h7⟩⟩,
   fun ⟨iv, vv, bv, ev, h1, h2, h3, ⟨xb, h4, h5⟩, ⟨xe, h6, h7⟩⟩ => ⟨iv, vv, bv, ev, xb, xe, h1, h2, h3, h4, h5, h6, h7⟩⟩
theorem I9.iff {v : Value} {e : b5} : I9 w φ v e ↔ ∃ cs : List Value, v = .agg cs.toArray ∧ L8 w φ e cs :=
 ⟨fun ⟨kv, h1, h2⟩ => ⟨_, h1, (L8.iff e _).2 ⟨kv, rfl, h2⟩⟩, fun ⟨cs, h1, h2⟩ => by obtain ⟨kv, rfl, h3⟩ := (L8.iff e cs).1 h2; exact ⟨kv, h1, h3⟩⟩
theorem N5.iff {v : Value} {s : b6} : N5 w φ v s ↔ ∃ cs : List Value, v = .agg cs.toArray ∧ L1 w φ s cs :=
 ⟨fun ⟨iv, vv, bv, ev, h1, h2⟩ => ⟨_, h1, (L1.iff s _).2 ⟨iv, vv, bv, ev, rfl, h2⟩⟩, fun ⟨cs, h1, h2⟩ => by obtain ⟨iv, vv, bv, ev, rfl, h3⟩ := (L1.iff s cs).1 h2; exact ⟨iv, vv, bv, ev, h1, h3⟩⟩
theorem C5.len : ∀ {ks : List b5} {xs : List Value}, C5 w φ ks xs → xs.length = ks.length * 3
 | [], _, h => by rw [show _ = [] from h]; rfl
 | e :: r, _, ⟨c, ys, h1, h2, h3⟩ => by
  obtain ⟨kv, rfl, _⟩ := (L8.iff e c).1 h2
  rw [h1, bF2, C5.len h3, bF0]; simp; omega
theorem B9.len : ∀ {ss : List b6} {xs : List Value}, B9 w φ ss xs → xs.length = ss.length * 11
 | [], _, h => by rw [show _ = [] from h]; rfl
 | s :: r, _, ⟨c, ys, h1, h2, h3⟩ => by
  obtain ⟨iv, vv, bv, ev, rfl, _⟩ := (L1.iff s c).1 h2
  rw [h1, bF2, B9.len h3, bF0]; simp; omega
theorem C5.at : ∀ {ks : List b5} {xs : List Value}, C5 w φ ks xs → ∀ (i : Nat) (hi : i < ks.length), ∃ kv, xs[i * 3]? = some (.int .i64 ks[i].kind) ∧ xs[i * 3 + 1]? = some (.int .i64 ks[i].value) ∧ xs[i * 3 + 2]? = some kv ∧ p8 w φ kv ks[i].kids
 | [], _, _, i, hi => by simp at hi
 | e :: r, _, ⟨c, ys, h1, h2, h3⟩, i, hi => by
  obtain ⟨kv, rfl, hk⟩ := (L8.iff e c).1 h2
  subst h1
  cases i with
  | zero => exact ⟨kv, rfl, rfl, rfl, hk⟩
  | succ i =>
   obtain ⟨kv', a, b, d, f⟩ := C5.at h3 i (by simpa using hi)
   refine ⟨kv', ?_, ?_, ?_, f⟩ <;> (rw [bH7]; simpa [Nat.add_assoc] using by assumption)
theorem B9.at : ∀ {ss : List b6} {xs : List Value}, B9 w φ ss xs → ∀ (i : Nat) (hi : i < ss.length), ∃ cs : List Value, cs.length = 11 ∧ L1 w φ ss[i] cs ∧ ∀ j, j < 11 → xs[i * 11 + j]? = cs[j]?
 | [], _, _, i, hi => by simp at hi
 | s :: r, _, ⟨c, ys, h1, h2, h3⟩, i, hi => by
  have hc : c.length = 11 := by obtain ⟨iv, vv, bv, ev, rfl, _⟩ := (L1.iff s c).1 h2; rfl
  subst h1
  cases i with
  | zero => exact ⟨c, hc, h2, fun j hj => by rw [bG9 (by omega)]; simp⟩
  | succ i =>
   obtain ⟨cs, a, b, d⟩ := B9.at h3 i (by simpa using hi)
   refine ⟨cs, a, b, fun j hj => ?_⟩
   rw [bH8 (by rw [hc, bH7]; omega), ← d j hj]
   congr 1
   rw [hc, bH7]; omega
theorem C5.append : ∀ {ks : List b5} {xs : List Value} {ls : List b5} {ys : List Value}, C5 w φ ks xs → C5 w φ ls ys → C5 w φ (ks ++ ls) (xs ++ ys)
 | [], _, _, _, h, k => by rw [show _ = [] from h]; exact k
 | e :: r, _, _, _, ⟨c, zs, h1, h2, h3⟩, k => ⟨c, zs ++ _, by rw [h1, List.append_assoc], h2, C5.append h3 k⟩
theorem C5.one {e : b5} {c : List Value} (h : L8 w φ e c) : C5 w φ [e] c := ⟨c, [], by simp, h, rfl⟩
theorem B9.append : ∀ {ks : List b6} {xs : List Value} {ls : List b6} {ys : List Value}, B9 w φ ks xs → B9 w φ ls ys → B9 w φ (ks ++ ls) (xs ++ ys)
 | [], _, _, _, h, k => by rw [show _ = [] from h]; exact k
 | e :: r, _, _, _, ⟨c, zs, h1, h2, h3⟩, k => ⟨c, zs ++ _, by rw [h1, List.append_assoc], h2, B9.append h3 k⟩
theorem B9.one {s : b6} {c : List Value} (h : L1 w φ s c) : B9 w φ [s] c := ⟨c, [], by simp, h, rfl⟩
theorem p8.open {v : Value} {ks : List b5} (h : p8 w φ v ks) : ∃ a cap, v = .slice a ks.length cap ∧ ks.length ≤ cap ∧ ks.length ≤ 9223372036854775807 ∧ cap ≤ 9223372036854775807 ∧
  ∀ i (hi : i < ks.length), ∃ b off kv, a = some ⟨b, off, none⟩ ∧ b < w.heap.size ∧ φ b ∧ w.cell? ⟨b, off + i * 3, none⟩ = some (.int .i64 ks[i].kind) ∧ w.cell? ⟨b, off + i * 3 + 1, none⟩ = some (.int .i64 ks[i].value) ∧ w.cell? ⟨b, off + i * 3 + 2, none⟩ = some kv ∧ p8 w φ kv ks[i].kids := by
 obtain ⟨xs, ⟨hl, a, cap, rfl, h1, h2, h3⟩, hx⟩ := h
 unfold maxLen at h2
 refine ⟨a, cap, rfl, h1, by omega, by omega, fun i hi => ?_⟩
 obtain ⟨b, off, rfl, hb, hf, hc⟩ := h3 (by omega)
 obtain ⟨kv, e0, e1, e2, hk⟩ := hx.at i hi
 exact ⟨b, off, kv, rfl, hb, hf, hc _ _ e0, hc _ _ e1, hc _ _ e2, hk⟩
theorem s0.open {v : Value} {ss : List b6} (h : s0 w φ v ss) : ∃ a cap, v = .slice a ss.length cap ∧ ss.length ≤ cap ∧ ss.length ≤ 9223372036854775807 ∧ cap ≤ 9223372036854775807 ∧
  ∀ i (hi : i < ss.length), ∃ b off iv vv bv ev, a = some ⟨b, off, none⟩ ∧ b < w.heap.size ∧ φ b ∧
   (w.cell? ⟨b, off + i * 11, none⟩ = some (.int .i64 ss[i].kind) ∧ w.cell? ⟨b, off + i * 11 + 1, none⟩ = some (.int .i64 ss[i].target) ∧ w.cell? ⟨b, off + i * 11 + 2, none⟩ = some (.int .i64 ss[i].index.kind) ∧ w.cell? ⟨b, off + i * 11 + 3, none⟩ = some (.int .i64 ss[i].index.value) ∧ w.cell? ⟨b, off + i * 11 + 4, none⟩ = some iv ∧
    w.cell? ⟨b, off + i * 11 + 5, none⟩ = some (.int .i64 ss[i].value.kind) ∧ w.cell? ⟨b, off + i * 11 + 6, none⟩ = some (.int .i64 ss[i].value.value) ∧ w.cell? ⟨b, off + i * 11 + 7, none⟩ = some vv ∧ w.cell? ⟨b, off + i * 11 + 8, none⟩ = some (.int .i64 ss[i].count) ∧ w.cell? ⟨b, off + i * 11 + 9, none⟩ = some bv ∧ w.cell? ⟨b, off + i * 11 + 10, none⟩ = some ev) ∧
   p8 w φ iv ss[i].index.kids ∧ p8 w φ vv ss[i].value.kids ∧ s0 w φ bv ss[i].body ∧ s0 w φ ev ss[i].els := by
 obtain ⟨xs, ⟨hl, a, cap, rfl, h1, h2, h3⟩, hx⟩ := h
 unfold maxLen at h2
 refine ⟨a, cap, rfl, h1, by omega, by omega, fun i hi => ?_⟩
 obtain ⟨b, off, rfl, hb, hf, hc⟩ := h3 (by omega)
 obtain ⟨cs, hl2, hs, hj⟩ := hx.at i hi
 obtain ⟨iv, vv, bv, ev, rfl, k1, k2, k3, k4⟩ := (L1.iff _ _).1 hs
 refine ⟨b, off, iv, vv, bv, ev, rfl, hb, hf, ⟨?_, ?_, ?_, ?_, ?_, ?_, ?_, ?_, ?_, ?_, ?_⟩, k1, k2, k3, k4⟩
 ·have := hc (i * 11 + 0) _ ((hj 0 (by omega)).trans rfl); simpa using this
 ·exact hc (i * 11 + 1) _ ((hj 1 (by omega)).trans rfl)
 ·exact hc (i * 11 + 2) _ ((hj 2 (by omega)).trans rfl)
 ·exact hc (i * 11 + 3) _ ((hj 3 (by omega)).trans rfl)
 ·exact hc (i * 11 + 4) _ ((hj 4 (by omega)).trans rfl)
 ·exact hc (i * 11 + 5) _ ((hj 5 (by omega)).trans rfl)
 ·exact hc (i * 11 + 6) _ ((hj 6 (by omega)).trans rfl)
 ·exact hc (i * 11 + 7) _ ((hj 7 (by omega)).trans rfl)
 ·exact hc (i * 11 + 8) _ ((hj 8 (by omega)).trans rfl)
 ·exact hc (i * 11 + 9) _ ((hj 9 (by omega)).trans rfl)
 ·exact hc (i * 11 + 10) _ ((hj 10 (by omega)).trans rfl)
theorem p8.nil (w : World) (φ : Nat → Prop) : p8 w φ (.slice none 0 0) [] := ⟨[], D9.nil _ _ _, rfl⟩
theorem s0.nil (w : World) (φ : Nat → Prop) : s0 w φ (.slice none 0 0) [] := ⟨[], D9.nil _ _ _, rfl⟩
end
inductive D where
 | ints (l : List Int)
 | bools (l : List Bool)
 | bytes (l : List UInt8)
 | strs (l : List ByteArray)
 | instrs (l : List Z0)
 | events (l : List (Int × Int))
 | rows (l : List (List Int))
 | brows (l : List (List Bool))
 | exprs (l : List b5)
 | stmts (l : List b6)
inductive X where
 | v (x : Value)
 | sl (d : D)
def D.len : D → Nat
 | .ints l => l.length
 | .bools l => l.length
 | .bytes l => l.length
 | .strs l => l.length
 | .instrs l => l.length
 | .events l => l.length
 | .rows l => l.length
 | .brows l => l.length
 | .exprs l => l.length
 | .stmts l => l.length
def D.sz : D → Nat
 | .instrs _ => 5
 | .events _ => 2
 | .exprs _ => 3
 | .stmts _ => 11
 | _ => 1
instance : Inhabited b5 := ⟨⟨0, 0, []⟩⟩
instance : Inhabited b6 := ⟨⟨0, 0, bE8, bE8, 0, [], []⟩⟩
instance : Inhabited Z0 := ⟨⟨0, 0, 0, 0, 0⟩⟩
def aE6 (e : b5) : List X := [.v (.int .i64 e.kind), .v (.int .i64 e.value), .sl (.exprs e.kids)]
def aB4 (s : b6) : List X := [.v (.int .i64 s.kind), .v (.int .i64 s.target), .v (.int .i64 s.index.kind), .v (.int .i64 s.index.value), .sl (.exprs s.index.kids), .v (.int .i64 s.value.kind), .v (.int .i64 s.value.value), .sl (.exprs s.value.kids), .v (.int .i64 s.count), .sl (.stmts s.body), .sl (.stmts s.els)]
def a16 (x : Z0) : List X := [.v (.int .i64 x.op), .v (.int .i64 x.a), .v (.int .i64 x.b), .v (.int .i64 x.c), .v (.int .i64 x.d)]
def an9 (x : Int × Int) : List X := [.v (.int .i64 x.1), .v (.int .i64 x.2)]
def D.elem : D → Nat → List X
 | .ints l, i => [.v (.int .i64 (l.getD i 0))]
 | .bools l, i => [.v (.bool (l.getD i false))]
 | .bytes l, i => [.v (.int .u8 ((l.getD i 0).toNat : Int))]
 | .strs l, i => [.v (.string (l.getD i ByteArray.empty))]
 | .instrs l, i => a16 (l.getD i bE8)
 | .events l, i => an9 (l.getD i (0, 0))
 | .rows l, i => [.sl (.ints (l.getD i []))]
 | .brows l, i => [.sl (.bools (l.getD i []))]
 | .exprs l, i => aE6 (l.getD i bE8)
 | .stmts l, i => aB4 (l.getD i bE8)
theorem D.elem_len (d : D) (i : Nat) : (d.elem i).length = d.sz := by cases d <;> rfl
theorem A5 {α : Type} {l : List α} {i : Nat} {d : α} (h : i < l.length) : l.getD i d = l[i] := by simp [h]
def RD (w : World) (φ : Nat → Prop) : D → Value → Prop
 | .ints l, v => D9 w φ v l.length 1 (ints l)
 | .bools l, v => D9 w φ v l.length 1 (l.map Value.bool)
 | .bytes l, v => D9 w φ v l.length 1 (l.map fun b => Value.int .u8 (b.toNat : Int))
 | .strs l, v => D9 w φ v l.length 1 (l.map Value.string)
 | .instrs l, v => D9 w φ v l.length 5 (ints (aa8 l))
 | .events l, v => D9 w φ v l.length 2 (l.flatMap fun x => [Value.int .i64 x.1, .int .i64 x.2])
 | .rows l, v => ∃ vs : List Value, D9 w φ v l.length 1 vs ∧ ∀ i (_ : i < l.length), ∃ u, vs[i]? = some u ∧ D9 w φ u l[i].length 1 (ints l[i])
 | .brows l, v => ∃ vs : List Value, D9 w φ v l.length 1 vs ∧ ∀ i (_ : i < l.length), ∃ u, vs[i]? = some u ∧ D9 w φ u l[i].length 1 (l[i].map Value.bool)
 | .exprs l, v => p8 w φ v l
 | .stmts l, v => s0 w φ v l
def XH (w : World) (φ : Nat → Prop) : X → Value → Prop
 | .v x, u => u = x
 | .sl d, u => RD w φ d u
theorem RD.nice (d : D) (v : Value) : af1 fun w φ => RD w φ d v := by
 intro w w' φ φ' ha h
 cases d with
 | rows l => obtain ⟨vs, h1, h2⟩ := h; exact ⟨vs, D9.nice _ _ _ _ _ _ _ _ ha h1, fun i hi => let ⟨u, a, b⟩ := h2 i hi; ⟨u, a, D9.nice _ _ _ _ _ _ _ _ ha b⟩⟩
 | brows l => obtain ⟨vs, h1, h2⟩ := h; exact ⟨vs, D9.nice _ _ _ _ _ _ _ _ ha h1, fun i hi => let ⟨u, a, b⟩ := h2 i hi; ⟨u, a, D9.nice _ _ _ _ _ _ _ _ ha b⟩⟩
 | exprs l => exact p8.nice v l _ _ _ _ ha h
 | stmts l => exact s0.nice v l _ _ _ _ ha h
 | _ => exact D9.nice _ _ _ _ _ _ _ _ ha h
theorem XH.nice (x : X) (v : Value) : af1 fun w φ => XH w φ x v := by
 intro w w' φ φ' ha h
 cases x with
 | v x => exact h
 | sl d => exact RD.nice d v _ _ _ _ ha h
def RW (w : World) (φ : Nat → Prop) (d : D) (xs : List Value) : Prop :=
 ∀ i, i < d.len → ∀ j x, (d.elem i)[j]? = some x → ∃ u, xs[i * d.sz + j]? = some u ∧ XH w φ x u
theorem RW.nice (d : D) (xs : List Value) : af1 fun w φ => RW w φ d xs := fun _ _ _ _ ha h i hi j x hx => let ⟨u, a, b⟩ := h i hi j x hx; ⟨u, a, XH.nice x u _ _ _ _ ha b⟩
theorem aw6 {α : Type} (l : List α) (f : α → Value) (dflt : α) {i j : Nat} {x : X} (hi : i < l.length) (hx : ([X.v (f (l.getD i dflt))] : List X)[j]? = some x) : ∃ y, x = .v y ∧ (l.map f)[i * 1 + j]? = some y := by
 cases j with
 | zero => simp at hx; subst hx; exact ⟨_, rfl, by simp [hi]⟩
 | succ j => simp at hx
theorem bt5 (l : List Z0) {i j : Nat} {x : X} (hi : i < l.length) (hx : (a16 (l.getD i bE8))[j]? = some x) : ∃ y, x = .v y ∧ (ints (aa8 l))[i * 5 + j]? = some y := by
 obtain ⟨g0, g1, g2, g3, g4⟩ := bj0 l i hi
 have e : l.getD i bE8 = l[i] := by simp [hi]
 rw [e] at hx
 unfold a16 at hx
 match j, hx with
 | 0, hx => simp at hx; subst hx; exact ⟨_, rfl, by simp [ints, g0]⟩
 | 1, hx => simp at hx; subst hx; exact ⟨_, rfl, by simp [ints, g1]⟩
 | 2, hx => simp at hx; subst hx; exact ⟨_, rfl, by simp [ints, g2]⟩
 | 3, hx => simp at hx; subst hx; exact ⟨_, rfl, by simp [ints, g3]⟩
 | 4, hx => simp at hx; subst hx; exact ⟨_, rfl, by simp [ints, g4]⟩
 | j + 5, hx => simp at hx
theorem bt6 (l : List (Int × Int)) : ∀ {i j : Nat} {x : X}, i < l.length → (an9 (l.getD i (0, 0)))[j]? = some x → ∃ y, x = .v y ∧ (l.flatMap fun x => [Value.int .i64 x.1, .int .i64 x.2])[i * 2 + j]? = some y := by
 induction l with
 | nil => intro i j x hi; simp at hi
 | cons a r ih =>
  intro i j x hi hx
  cases i with
  | zero =>
   unfold an9 at hx
   match j, hx with
   | 0, hx => simp at hx; subst hx; exact ⟨_, rfl, by simp⟩
   | 1, hx => simp at hx; subst hx; exact ⟨_, rfl, by simp⟩
   | j + 2, hx => simp at hx
  | succ i =>
   obtain ⟨y, h1, h2⟩ := ih (i := i) (j := j) (x := x) (by simpa using hi) (by simpa using hx)
   refine ⟨y, h1, ?_⟩
   rw [show (i + 1) * 2 + j = i * 2 + j + 2 by omega]
   simpa using h2
theorem D9.cellAt {w : World} {φ : Nat → Prop} {v : Value} {n sz : Nat} {xs : List Value} (h : D9 w φ v n sz xs) : ∃ a cap, v = .slice a n cap ∧ n ≤ cap ∧ cap ≤ maxLen ∧
  ∀ i, i < n → ∃ b off, a = some ⟨b, off, none⟩ ∧ b < w.heap.size ∧ φ b ∧ ∀ j u, xs[i * sz + j]? = some u → w.cell? ⟨b, off + (i * sz + j), none⟩ = some u := by
 obtain ⟨_, a, cap, rfl, h1, h2, h3⟩ := h
 refine ⟨a, cap, rfl, h1, h2, fun i hi => ?_⟩
 obtain ⟨b, off, rfl, hb, hf, hc⟩ := h3 (by omega)
 exact ⟨b, off, rfl, hb, hf, fun j u hj => hc _ u hj⟩
theorem bj6 {w : World} {φ : Nat → Prop} {e : b5} {c : List Value} (h : L8 w φ e c) {j : Nat} {x : X} (hx : (aE6 e)[j]? = some x) : ∃ u, c[j]? = some u ∧ XH w φ x u := by
 obtain ⟨kv, rfl, hk⟩ := (L8.iff e c).1 h
 unfold aE6 at hx
 match j, hx with
 | 0, hx => simp at hx; subst hx; exact ⟨_, rfl, rfl⟩
 | 1, hx => simp at hx; subst hx; exact ⟨_, rfl, rfl⟩
 | 2, hx => simp at hx; subst hx; exact ⟨_, rfl, hk⟩
 | j + 3, hx => simp at hx
theorem be0 {w : World} {φ : Nat → Prop} {s : b6} {c : List Value} (h : L1 w φ s c) {j : Nat} {x : X} (hx : (aB4 s)[j]? = some x) : ∃ u, c[j]? = some u ∧ XH w φ x u := by
 obtain ⟨iv, vv, bv, ev, rfl, k1, k2, k3, k4⟩ := (L1.iff s c).1 h
 unfold aB4 at hx
 match j, hx with
 | 0, hx => simp at hx; subst hx; exact ⟨_, rfl, rfl⟩
 | 1, hx => simp at hx; subst hx; exact ⟨_, rfl, rfl⟩
 | 2, hx => simp at hx; subst hx; exact ⟨_, rfl, rfl⟩
 | 3, hx => simp at hx; subst hx; exact ⟨_, rfl, rfl⟩
 | 4, hx => simp at hx; subst hx; exact ⟨_, rfl, k1⟩
 | 5, hx => simp at hx; subst hx; exact ⟨_, rfl, rfl⟩
 | 6, hx => simp at hx; subst hx; exact ⟨_, rfl, rfl⟩
 | 7, hx => simp at hx; subst hx; exact ⟨_, rfl, k2⟩
 | 8, hx => simp at hx; subst hx; exact ⟨_, rfl, rfl⟩
 | 9, hx => simp at hx; subst hx; exact ⟨_, rfl, k3⟩
 | 10, hx => simp at hx; subst hx; exact ⟨_, rfl, k4⟩
 | j + 11, hx => simp at hx
theorem RW.exprs {w : World} {φ : Nat → Prop} {ks : List b5} {xs : List Value} (h : C5 w φ ks xs) : RW w φ (.exprs ks) xs := by
 intro i hi j x hx
 have hj : j < 3 := by
  have := (bG0.1 hx).1
  rw [D.elem_len] at this; exact this
 have hi' : i < ks.length := hi
 obtain ⟨kv, e0, e1, e2, hk⟩ := h.at i hi'
 have hx' : (aE6 ks[i])[j]? = some x := by
  rw [← A5 (d := bE8) hi']; exact hx
 obtain ⟨u, hu, hh⟩ := bj6 ((L8.iff ks[i] [.int .i64 ks[i].kind, .int .i64 ks[i].value, kv]).2 ⟨kv, rfl, hk⟩) hx'
 refine ⟨u, ?_, hh⟩
 rw [← hu]
 show xs[i * 3 + j]? = _
 match j, hj with
 | 0, _ => simpa using e0
 | 1, _ => simpa using e1
 | 2, _ => simpa using e2
theorem RW.stmts {w : World} {φ : Nat → Prop} {ks : List b6} {xs : List Value} (h : B9 w φ ks xs) : RW w φ (.stmts ks) xs := by
 intro i hi j x hx
 have hj : j < 11 := by
  have := (bG0.1 hx).1
  rw [D.elem_len] at this; exact this
 have hi' : i < ks.length := hi
 obtain ⟨cs, hl, hs, hc⟩ := h.at i hi'
 have hx' : (aB4 ks[i])[j]? = some x := by
  rw [← A5 (d := bE8) hi']; exact hx
 obtain ⟨u, hu, hh⟩ := be0 hs hx'
 exact ⟨u, (hc j hj).trans hu, hh⟩
theorem RD.split {w : World} {φ : Nat → Prop} {d : D} {v : Value} (h : RD w φ d v) : ∃ xs, D9 w φ v d.len d.sz xs ∧ RW w φ d xs := by
 cases d with
 | ints l => exact ⟨_, h, fun i hi j x hx => let ⟨y, e, h1⟩ := aw6 l (Value.int .i64) 0 hi hx; ⟨y, h1, by subst e; rfl⟩⟩
 | bools l => exact ⟨_, h, fun i hi j x hx => let ⟨y, e, h1⟩ := aw6 l Value.bool false hi hx; ⟨y, h1, by subst e; rfl⟩⟩
 | bytes l => exact ⟨_, h, fun i hi j x hx => let ⟨y, e, h1⟩ := aw6 l (fun b => Value.int .u8 (b.toNat : Int)) 0 hi hx; ⟨y, h1, by subst e; rfl⟩⟩
 | strs l => exact ⟨_, h, fun i hi j x hx => let ⟨y, e, h1⟩ := aw6 l Value.string ByteArray.empty hi hx; ⟨y, h1, by subst e; rfl⟩⟩
 | instrs l => exact ⟨_, h, fun i hi j x hx => let ⟨y, e, h1⟩ := bt5 l hi hx; ⟨y, h1, by subst e; rfl⟩⟩
 | events l => exact ⟨_, h, fun i hi j x hx => let ⟨y, e, h1⟩ := bt6 l hi hx; ⟨y, h1, by subst e; rfl⟩⟩
 | rows l =>
  obtain ⟨vs, h1, h2⟩ := h
  refine ⟨vs, h1, fun i hi j x hx => ?_⟩
  cases j with
  | succ j => simp [D.elem] at hx
  | zero =>
   obtain ⟨u, e, h3⟩ := h2 i hi
   simp only [D.elem, List.getElem?_cons_zero, Option.some.injEq] at hx
   subst hx
   have hi' : i < l.length := hi
   exact ⟨u, by simpa [D.sz] using e, by show D9 _ _ _ _ _ _; rw [A5 hi']; exact h3⟩
 | brows l =>
  obtain ⟨vs, h1, h2⟩ := h
  refine ⟨vs, h1, fun i hi j x hx => ?_⟩
  cases j with
  | succ j => simp [D.elem] at hx
  | zero =>
   obtain ⟨u, e, h3⟩ := h2 i hi
   simp only [D.elem, List.getElem?_cons_zero, Option.some.injEq] at hx
   subst hx
   have hi' : i < l.length := hi
   exact ⟨u, by simpa [D.sz] using e, by show D9 _ _ _ _ _ _; rw [A5 hi']; exact h3⟩
 | exprs l => obtain ⟨xs, h1, h2⟩ := h; exact ⟨xs, h1, RW.exprs h2⟩
 | stmts l => obtain ⟨xs, h1, h2⟩ := h; exact ⟨xs, h1, RW.stmts h2⟩
theorem RD.open {w : World} {φ : Nat → Prop} {d : D} {v : Value} (h : RD w φ d v) : ∃ a cap, v = .slice a d.len cap ∧ d.len ≤ cap ∧ cap ≤ maxLen ∧
  ∀ i, i < d.len → ∃ b off, a = some ⟨b, off, none⟩ ∧ b < w.heap.size ∧ φ b ∧ ∀ j x, (d.elem i)[j]? = some x → ∃ u, w.cell? ⟨b, off + (i * d.sz + j), none⟩ = some u ∧ XH w φ x u := by
 obtain ⟨xs, h1, h2⟩ := h.split
 obtain ⟨a, cap, rfl, k1, k2, k3⟩ := h1.cellAt
 refine ⟨a, cap, rfl, k1, k2, fun i hi => ?_⟩
 obtain ⟨b, off, e, hb, hf, hc⟩ := k3 i hi
 exact ⟨b, off, e, hb, hf, fun j x hx => let ⟨u, hu, hh⟩ := h2 i hi j x hx; ⟨u, hc j u hu, hh⟩⟩
theorem bv4 {xs ys : List Value} (hl : xs.length = ys.length) (h : ∀ i, i < ys.length → xs[i]? = ys[i]?) : xs = ys := by
 apply List.ext_getElem?
 intro i
 rcases bI0 i ys.length with hi | hi
 ·exact h i hi
 ·rw [bG7 (by omega), bG7 hi]
theorem RW.drop {w : World} {φ : Nat → Prop} {a : b5} {r : List b5} {xs : List Value} (h : RW w φ (.exprs (a :: r)) xs) : RW w φ (.exprs r) (xs.drop 3) := by
 intro i hi j x hx
 have hi' : i < r.length := hi
 obtain ⟨u, h1, h2⟩ := h (i + 1) (by show i + 1 < (a :: r).length; simp; exact hi') j x (by simpa [D.elem] using hx)
 refine ⟨u, ?_, h2⟩
 rw [List.getElem?_drop, ← h1]
 congr 1
 simp only [D.sz]; omega
theorem RW.dropS {w : World} {φ : Nat → Prop} {a : b6} {r : List b6} {xs : List Value} (h : RW w φ (.stmts (a :: r)) xs) : RW w φ (.stmts r) (xs.drop 11) := by
 intro i hi j x hx
 have hi' : i < r.length := hi
 obtain ⟨u, h1, h2⟩ := h (i + 1) (by show i + 1 < (a :: r).length; simp; exact hi') j x (by simpa [D.elem] using hx)
 refine ⟨u, ?_, h2⟩
 rw [List.getElem?_drop, ← h1]
 congr 1
 simp only [D.sz]; omega
theorem by9 {xs : List Value} {u0 u1 u2 : Value} (h0 : xs[0]? = some u0) (h1 : xs[1]? = some u1) (h2 : xs[2]? = some u2) : xs = [u0, u1, u2] ++ xs.drop 3 := by
 match xs, h0, h1, h2 with
 | a :: b :: c :: r, h0, h1, h2 => simp at h0 h1 h2; simp [h0, h1, h2]
theorem bu2 {xs : List Value} {u0 u1 u2 u3 u4 u5 u6 u7 u8 u9 u10 : Value} (h0 : xs[0]? = some u0) (h1 : xs[1]? = some u1) (h2 : xs[2]? = some u2) (h3 : xs[3]? = some u3) (h4 : xs[4]? = some u4) (h5 : xs[5]? = some u5) (h6 : xs[6]? = some u6) (h7 : xs[7]? = some u7) (h8 : xs[8]? = some u8) (h9 : xs[9]? = some u9) (h10 : xs[10]? = some u10) : xs = [u0, u1, u2, u3, u4, u5, u6, u7, u8, u9, u10] ++ xs.drop 11 := by
 match xs, h0, h1, h2, h3, h4, h5, h6, h7, h8, h9, h10 with
 | a0 :: a1 :: a2 :: a3 :: a4 :: a5 :: a6 :: a7 :: a8 :: a9 :: a10 :: r, h0, h1, h2, h3, h4, h5, h6, h7, h8, h9, h10 =>
  simp at h0 h1 h2 h3 h4 h5 h6 h7 h8 h9 h10
  simp [h0, h1, h2, h3, h4, h5, h6, h7, h8, h9, h10]
theorem C5.of {w : World} {φ : Nat → Prop} : ∀ {ks : List b5} {xs : List Value}, xs.length = ks.length * 3 → RW w φ (.exprs ks) xs → C5 w φ ks xs
 | [], xs, hl, _ => by simp at hl; exact hl
 | a :: r, xs, hl, h => by
  have hp : 0 < (D.exprs (a :: r)).len := by show 0 < (a :: r).length; simp
  obtain ⟨u0, g0, rfl⟩ := h 0 hp 0 (.v (.int .i64 a.kind)) rfl
  obtain ⟨u1, g1, rfl⟩ := h 0 hp 1 (.v (.int .i64 a.value)) rfl
  obtain ⟨u2, g2, hk⟩ := h 0 hp 2 (.sl (.exprs a.kids)) rfl
  refine ⟨_, xs.drop 3, by9 (by simpa using g0) (by simpa using g1) (by simpa using g2), (L8.iff a _).2 ⟨u2, rfl, hk⟩, C5.of (by simp at hl ⊢; omega) h.drop⟩
theorem B9.of {w : World} {φ : Nat → Prop} : ∀ {ks : List b6} {xs : List Value}, xs.length = ks.length * 11 → RW w φ (.stmts ks) xs → B9 w φ ks xs
 | [], xs, hl, _ => by simp at hl; exact hl
 | a :: r, xs, hl, h => by
  have hp : 0 < (D.stmts (a :: r)).len := by show 0 < (a :: r).length; simp
  obtain ⟨u0, g0, rfl⟩ := h 0 hp 0 (.v (.int .i64 a.kind)) rfl
  obtain ⟨u1, g1, rfl⟩ := h 0 hp 1 (.v (.int .i64 a.target)) rfl
  obtain ⟨u2, g2, rfl⟩ := h 0 hp 2 (.v (.int .i64 a.index.kind)) rfl
  obtain ⟨u3, g3, rfl⟩ := h 0 hp 3 (.v (.int .i64 a.index.value)) rfl
  obtain ⟨u4, g4, k4⟩ := h 0 hp 4 (.sl (.exprs a.index.kids)) rfl
  obtain ⟨u5, g5, rfl⟩ := h 0 hp 5 (.v (.int .i64 a.value.kind)) rfl
  obtain ⟨u6, g6, rfl⟩ := h 0 hp 6 (.v (.int .i64 a.value.value)) rfl
  obtain ⟨u7, g7, k7⟩ := h 0 hp 7 (.sl (.exprs a.value.kids)) rfl
  obtain ⟨u8, g8, rfl⟩ := h 0 hp 8 (.v (.int .i64 a.count)) rfl
  obtain ⟨u9, g9, k9⟩ := h 0 hp 9 (.sl (.stmts a.body)) rfl
  obtain ⟨u10, g10, k10⟩ := h 0 hp 10 (.sl (.stmts a.els)) rfl
  refine ⟨_, xs.drop 11, bu2 (by simpa using g0) (by simpa using g1) (by simpa using g2) (by simpa using g3) (by simpa using g4) (by simpa using g5) (by simpa using g6) (by simpa using g7) (by simpa using g8) (by simpa using g9) (by simpa using g10), (L1.iff a _).2 ⟨u4, u7, u9, u10, rfl, k4, k7, k9, k10⟩, B9.of (by simp at hl ⊢; omega) h.dropS⟩
theorem aj1 {w : World} {φ : Nat → Prop} {d : D} {xs ys : List Value} (hl : xs.length = d.len * d.sz) (hy : ys.length = d.len * d.sz) (h : RW w φ d xs)
  (hf : ∀ i j x, i < d.len → (d.elem i)[j]? = some x → ∃ y, x = .v y ∧ ys[i * d.sz + j]? = some y) : xs = ys := by
 refine bv4 (hl.trans hy.symm) fun p hp => ?_
 have hs : 0 < d.sz := by cases d <;> simp [D.sz]
 have hi : p / d.sz < d.len := by rw [hy] at hp; exact Nat.div_lt_of_lt_mul (by rw [Nat.mul_comm]; exact hp)
 have hj : p % d.sz < (d.elem (p / d.sz)).length := by rw [D.elem_len]; exact Nat.mod_lt _ hs
 obtain ⟨y, h1, h2⟩ := hf _ _ _ hi (bF1 hj)
 obtain ⟨u, h3, h4⟩ := h _ hi _ _ (bF1 hj)
 rw [h1] at h4
 have e : p / d.sz * d.sz + p % d.sz = p := by rw [Nat.mul_comm]; exact Nat.div_add_mod p d.sz
 rw [e] at h2 h3
 rw [h3, h2]
 exact congrArg some h4
theorem a22 (l : List (Int × Int)) : (l.flatMap fun x => [Value.int .i64 x.1, .int .i64 x.2]).length = l.length * 2 := by
 induction l with
 | nil => rfl
 | cons a r ih => rw [List.flatMap_cons, bF2, ih]; simp; omega
theorem RD.make {w : World} {φ : Nat → Prop} {d : D} {v : Value} {xs : List Value} (hr : D9 w φ v d.len d.sz xs) (h : RW w φ d xs) : RD w φ d v := by
 have hl := hr.1
 cases d with
 | ints l => rw [aj1 hl (by simp [D.len, D.sz, ints]) h fun i j x hi hx => aw6 l (Value.int .i64) 0 hi hx] at hr; exact hr
 | bools l => rw [aj1 hl (by simp [D.len, D.sz]) h fun i j x hi hx => aw6 l Value.bool false hi hx] at hr; exact hr
 | bytes l => rw [aj1 hl (by simp [D.len, D.sz]) h fun i j x hi hx => aw6 l (fun b => Value.int .u8 (b.toNat : Int)) 0 hi hx] at hr; exact hr
 | strs l => rw [aj1 hl (by simp [D.len, D.sz]) h fun i j x hi hx => aw6 l Value.string ByteArray.empty hi hx] at hr; exact hr
 | instrs l => rw [aj1 hl (by simp [D.len, D.sz, ints, bi9]) h fun i j x hi hx => bt5 l hi hx] at hr; exact hr
 | events l => rw [aj1 hl (a22 l) h fun i j x hi hx => bt6 l hi hx] at hr; exact hr
 | rows l =>
  refine ⟨xs, hr, fun i hi => ?_⟩
  obtain ⟨u, h1, h2⟩ := h i hi 0 _ rfl
  exact ⟨u, by simpa [D.sz] using h1, by have h3 : D9 _ _ _ _ _ _ := h2; rw [A5 hi] at h3; exact h3⟩
 | brows l =>
  refine ⟨xs, hr, fun i hi => ?_⟩
  obtain ⟨u, h1, h2⟩ := h i hi 0 _ rfl
  exact ⟨u, by simpa [D.sz] using h1, by have h3 : D9 _ _ _ _ _ _ := h2; rw [A5 hi] at h3; exact h3⟩
 | exprs l => exact ⟨xs, hr, C5.of hl h⟩
 | stmts l => exact ⟨xs, hr, B9.of hl h⟩
section
mutual
def F0 (w : World) : b5 → (Nat → Prop) → List Value → Prop
 | ⟨k, n, ks⟩, S, cs => ∃ (v : Value) (xs : List Value) (S' : Nat → Prop), cs = [.int .i64 k, .int .i64 n, v] ∧ w.ownsRow 0 104 3 v ks.length xs ∧ (∀ g, v.ownBlock = some g → S g ∧ ¬ S' g) ∧ (∀ b, S' b → S b) ∧ s9 w ks S' xs
def s9 (w : World) : List b5 → (Nat → Prop) → List Value → Prop
 | [], _, xs => xs = []
 | e :: r, S, xs => ∃ (c ys : List Value) (S1 S2 : Nat → Prop), xs = c ++ ys ∧ (∀ b, S1 b → S b ∧ ¬ S2 b) ∧ (∀ b, S2 b → S b) ∧ F0 w e S1 c ∧ s9 w r S2 ys
end
def A2 (w : World) (v : Value) (ks : List b5) (S : Nat → Prop) : Prop :=
 ∃ (xs : List Value) (S' : Nat → Prop), w.ownsRow 0 104 3 v ks.length xs ∧ (∀ g, v.ownBlock = some g → S g ∧ ¬ S' g) ∧ (∀ b, S' b → S b) ∧ s9 w ks S' xs
mutual
def E8 (w : World) : b6 → (Nat → Prop) → List Value → Prop
 | ⟨k, t, i, v, c, b, e⟩, S, cs => ∃ (iv vv bv ev : Value) (xb xe : List Value) (Si Sv Sb Se Sb' Se' : Nat → Prop), cs = [.int .i64 k, .int .i64 t, .int .i64 i.kind, .int .i64 i.value, iv, .int .i64 v.kind, .int .i64 v.value, vv, .int .i64 c, bv, ev] ∧
   ((∀ b, Si b → S b ∧ ¬ Sv b ∧ ¬ Sb b ∧ ¬ Se b) ∧ (∀ b, Sv b → S b ∧ ¬ Sb b ∧ ¬ Se b) ∧ (∀ b, Sb b → S b ∧ ¬ Se b) ∧ (∀ b, Se b → S b)) ∧ A2 w iv i.kids Si ∧ A2 w vv v.kids Sv ∧
   (w.ownsRow 0 106 11 bv b.length xb ∧ (∀ g, bv.ownBlock = some g → Sb g ∧ ¬ Sb' g) ∧ (∀ b, Sb' b → Sb b) ∧ s8 w b Sb' xb) ∧
   (w.ownsRow 0 106 11 ev e.length xe ∧ (∀ g, ev.ownBlock = some g → Se g ∧ ¬ Se' g) ∧ (∀ b, Se' b → Se b) ∧ s8 w e Se' xe)
def s8 (w : World) : List b6 → (Nat → Prop) → List Value → Prop
 | [], _, xs => xs = []
 | s :: r, S, xs => ∃ (c ys : List Value) (S1 S2 : Nat → Prop), xs = c ++ ys ∧ (∀ b, S1 b → S b ∧ ¬ S2 b) ∧ (∀ b, S2 b → S b) ∧ E8 w s S1 c ∧ s8 w r S2 ys
end
def v9 (w : World) (v : Value) (ss : List b6) (S : Nat → Prop) : Prop :=
 ∃ (xs : List Value) (S' : Nat → Prop), w.ownsRow 0 106 11 v ss.length xs ∧ (∀ g, v.ownBlock = some g → S g ∧ ¬ S' g) ∧ (∀ b, S' b → S b) ∧ s8 w ss S' xs
def af8 (w : World) (v : Value) (p : b9) (S : Nat → Prop) : Prop :=
 ∃ (v1 v2 v3 : Value) (S3 : Nat → Prop), v = .agg #[v1, v2, v3] ∧ w.ownsRow 0 3 1 v1 p.vars.length (ints p.vars) ∧ w.ownsRow 0 3 1 v2 p.arrays.length (ints p.arrays) ∧ v9 w v3 p.body S3 ∧
  (∀ g, v1.ownBlock = some g → S g ∧ ¬ S3 g ∧ v2.ownBlock ≠ some g) ∧ (∀ g, v2.ownBlock = some g → S g ∧ ¬ S3 g) ∧ (∀ b, S3 b → S b)
variable {w w' : World} {S S' φ : Nat → Prop}
theorem G9 {e : TypeId} {sz : Nat} {v : Value} {n : Nat} {xs : List Value} (h : w.ownsRow 0 e sz v n xs) (hs : ∀ g, v.ownBlock = some g → w'.heap[g]? = w.heap[g]?) : w'.ownsRow 0 e sz v n xs :=
 (Q3.same (Q3.mk' h) hs).1
mutual
theorem F0.same : ∀ (e : b5) (S : Nat → Prop) (cs : List Value), F0 w e S cs → (∀ b, S b → b < w.heap.size → w'.heap[b]? = w.heap[b]?) → F0 w' e S cs
 | ⟨_, _, ks⟩, S, _, ⟨v, xs, S', h1, h2, h3, h4, h5⟩, hs => ⟨v, xs, S', h1, G9 h2 fun g hg => hs g (h3 g hg).1 (World.ownsRow.lt h2 g hg).2, h3, h4, s9.same ks S' xs h5 fun b hb => hs b (h4 b hb)⟩
theorem s9.same : ∀ (ks : List b5) (S : Nat → Prop) (xs : List Value), s9 w ks S xs → (∀ b, S b → b < w.heap.size → w'.heap[b]? = w.heap[b]?) → s9 w' ks S xs
 | [], _, _, h, _ => h
 | e :: r, S, _, ⟨c, ys, S1, S2, h1, h2, h3, h4, h5⟩, hs => ⟨c, ys, S1, S2, h1, h2, h3, F0.same e S1 c h4 fun b hb => hs b (h2 b hb).1, s9.same r S2 ys h5 fun b hb => hs b (h3 b hb)⟩
end
theorem A2.same {v : Value} {ks : List b5} (h : A2 w v ks S) (hs : ∀ b, S b → b < w.heap.size → w'.heap[b]? = w.heap[b]?) : A2 w' v ks S := by
 obtain ⟨xs, S', h2, h3, h4, h5⟩ := h
 exact ⟨xs, S', G9 h2 fun g hg => hs g (h3 g hg).1 (World.ownsRow.lt h2 g hg).2, h3, h4, s9.same ks S' xs h5 fun b hb => hs b (h4 b hb)⟩
mutual
theorem E8.same : ∀ (s : b6) (S : Nat → Prop) (cs : List Value), E8 w s S cs → (∀ b, S b → b < w.heap.size → w'.heap[b]? = w.heap[b]?) → E8 w' s S cs
 | ⟨_, _, _, _, _, b, e⟩, S, _, ⟨iv, vv, bv, ev, xb, xe, Si, Sv, Sb, Se, Sb', Se', h1, ⟨d1, d2, d3, d4⟩, h2, h3, ⟨b1, b2, b3, b4⟩, ⟨e1, e2, e3, e4⟩⟩, hs =>
  ⟨iv, vv, bv, ev, xb, xe, Si, Sv, Sb, Se, Sb', Se', h1, ⟨d1, d2, d3, d4⟩, h2.same fun b hb => hs b (d1 b hb).1, h3.same fun b hb => hs b (d2 b hb).1,
   ⟨G9 b1 fun g hg => hs g (d3 g (b2 g hg).1).1 (World.ownsRow.lt b1 g hg).2, b2, b3, s8.same b Sb' xb b4 fun x hx => hs x (d3 x (b3 x hx)).1⟩,
   ⟨G9 e1 fun g hg => hs g (d4 g (e2 g hg).1) (World.ownsRow.lt e1 g hg).2, e2, e3, s8.same e Se' xe e4 fun x hx => hs x (d4 x (e3 x hx))⟩⟩
theorem s8.same : ∀ (ss : List b6) (S : Nat → Prop) (xs : List Value), s8 w ss S xs → (∀ b, S b → b < w.heap.size → w'.heap[b]? = w.heap[b]?) → s8 w' ss S xs
 | [], _, _, h, _ => h
 | s :: r, S, _, ⟨c, ys, S1, S2, h1, h2, h3, h4, h5⟩, hs => ⟨c, ys, S1, S2, h1, h2, h3, E8.same s S1 c h4 fun b hb => hs b (h2 b hb).1, s8.same r S2 ys h5 fun b hb => hs b (h3 b hb)⟩
end
theorem v9.same {v : Value} {ss : List b6} (h : v9 w v ss S) (hs : ∀ b, S b → b < w.heap.size → w'.heap[b]? = w.heap[b]?) : v9 w' v ss S := by
 obtain ⟨xs, S', h2, h3, h4, h5⟩ := h
 exact ⟨xs, S', G9 h2 fun g hg => hs g (h3 g hg).1 (World.ownsRow.lt h2 g hg).2, h3, h4, s8.same ss S' xs h5 fun b hb => hs b (h4 b hb)⟩
theorem af8.same {v : Value} {p : b9} (h : af8 w v p S) (hs : ∀ b, S b → b < w.heap.size → w'.heap[b]? = w.heap[b]?) : af8 w' v p S := by
 obtain ⟨v1, v2, v3, S3, rfl, h1, h2, h3, d1, d2, d3⟩ := h
 exact ⟨v1, v2, v3, S3, rfl, G9 h1 fun g hg => hs g (d1 g hg).1 (World.ownsRow.lt h1 g hg).2, G9 h2 fun g hg => hs g (d2 g hg).1 (World.ownsRow.lt h2 g hg).2, h3.same fun b hb => hs b (d3 b hb), d1, d2, d3⟩
theorem A2.mono {v : Value} {ks : List b5} (h : A2 w v ks S) (hs : ∀ b, S b → S' b) : A2 w v ks S' := by
 obtain ⟨xs, T, h2, h3, h4, h5⟩ := h
 exact ⟨xs, T, h2, fun g hg => ⟨hs g (h3 g hg).1, (h3 g hg).2⟩, fun b hb => hs b (h4 b hb), h5⟩
theorem v9.mono {v : Value} {ss : List b6} (h : v9 w v ss S) (hs : ∀ b, S b → S' b) : v9 w v ss S' := by
 obtain ⟨xs, T, h2, h3, h4, h5⟩ := h
 exact ⟨xs, T, h2, fun g hg => ⟨hs g (h3 g hg).1, (h3 g hg).2⟩, fun b hb => hs b (h4 b hb), h5⟩
theorem af8.mono {v : Value} {p : b9} (h : af8 w v p S) (hs : ∀ b, S b → S' b) : af8 w v p S' := by
 obtain ⟨v1, v2, v3, S3, rfl, h1, h2, h3, d1, d2, d3⟩ := h
 exact ⟨v1, v2, v3, S3, rfl, h1, h2, h3, fun g hg => ⟨hs g (d1 g hg).1, (d1 g hg).2⟩, fun g hg => ⟨hs g (d2 g hg).1, (d2 g hg).2⟩, fun b hb => hs b (d3 b hb)⟩
mutual
theorem F0.read : ∀ (e : b5) (S : Nat → Prop) (cs : List Value), F0 w e S cs → (∀ b, S b → φ b) → L8 w φ e cs
 | ⟨_, _, ks⟩, S, _, ⟨v, xs, S', h1, h2, h3, h4, h5⟩, hs => ⟨v, xs, h1, G0 h2 fun g hg => hs g (h3 g hg).1, s9.read ks S' xs h5 fun b hb => hs b (h4 b hb)⟩
theorem s9.read : ∀ (ks : List b5) (S : Nat → Prop) (xs : List Value), s9 w ks S xs → (∀ b, S b → φ b) → C5 w φ ks xs
 | [], _, _, h, _ => h
 | e :: r, S, _, ⟨c, ys, S1, S2, h1, h2, h3, h4, h5⟩, hs => ⟨c, ys, h1, F0.read e S1 c h4 fun b hb => hs b (h2 b hb).1, s9.read r S2 ys h5 fun b hb => hs b (h3 b hb)⟩
end
theorem A2.read {v : Value} {ks : List b5} (h : A2 w v ks S) (hs : ∀ b, S b → φ b) : p8 w φ v ks := by
 obtain ⟨xs, T, h2, h3, h4, h5⟩ := h
 exact ⟨xs, G0 h2 fun g hg => hs g (h3 g hg).1, s9.read ks T xs h5 fun b hb => hs b (h4 b hb)⟩
mutual
theorem E8.read : ∀ (s : b6) (S : Nat → Prop) (cs : List Value), E8 w s S cs → (∀ b, S b → φ b) → L1 w φ s cs
 | ⟨_, _, _, _, _, b, e⟩, S, _, ⟨iv, vv, bv, ev, xb, xe, Si, Sv, Sb, Se, Sb', Se', h1, ⟨d1, d2, d3, d4⟩, h2, h3, ⟨b1, b2, b3, b4⟩, ⟨e1, e2, e3, e4⟩⟩, hs =>
  ⟨iv, vv, bv, ev, xb, xe, h1, h2.read fun b hb => hs b (d1 b hb).1, h3.read fun b hb => hs b (d2 b hb).1,
   G0 b1 fun g hg => hs g (d3 g (b2 g hg).1).1, s8.read b Sb' xb b4 fun x hx => hs x (d3 x (b3 x hx)).1,
   G0 e1 fun g hg => hs g (d4 g (e2 g hg).1), s8.read e Se' xe e4 fun x hx => hs x (d4 x (e3 x hx))⟩
theorem s8.read : ∀ (ss : List b6) (S : Nat → Prop) (xs : List Value), s8 w ss S xs → (∀ b, S b → φ b) → B9 w φ ss xs
 | [], _, _, h, _ => h
 | s :: r, S, _, ⟨c, ys, S1, S2, h1, h2, h3, h4, h5⟩, hs => ⟨c, ys, h1, E8.read s S1 c h4 fun b hb => hs b (h2 b hb).1, s8.read r S2 ys h5 fun b hb => hs b (h3 b hb)⟩
end
theorem v9.read {v : Value} {ss : List b6} (h : v9 w v ss S) (hs : ∀ b, S b → φ b) : s0 w φ v ss := by
 obtain ⟨xs, T, h2, h3, h4, h5⟩ := h
 exact ⟨xs, G0 h2 fun g hg => hs g (h3 g hg).1, s8.read ss T xs h5 fun b hb => hs b (h4 b hb)⟩
theorem af8.read {v : Value} {p : b9} (h : af8 w v p S) (hs : ∀ b, S b → φ b) : af7 w φ v p := by
 obtain ⟨v1, v2, v3, S3, rfl, h1, h2, h3, d1, d2, d3⟩ := h
 exact ⟨v1, v2, v3, rfl, G0 h1 fun g hg => hs g (d1 g hg).1, G0 h2 fun g hg => hs g (d2 g hg).1, h3.read fun b hb => hs b (d3 b hb)⟩
def bC4 (R : World → (Nat → Prop) → Prop) (S : Nat → Prop) : World → (Nat → Prop) → Prop := fun w φ => R w S ∧ ∀ b, S b → b < w.heap.size ∧ φ b
theorem bC4.nice {R : World → (Nat → Prop) → Prop} (S : Nat → Prop) (hR : ∀ w w' : World, R w S → (∀ b, S b → b < w.heap.size → w'.heap[b]? = w.heap[b]?) → R w' S) : af1 (bC4 R S) :=
 fun w w' _ _ ha ⟨h1, h2⟩ => ⟨hR w w' h1 fun b hb hlt => (ha.2 b hlt (h2 b hb).2).2, fun b hb => ⟨bH5 (h2 b hb).1 ha.1, (ha.2 b (h2 b hb).1 (h2 b hb).2).1⟩⟩
theorem s9.mono : ∀ {ks : List b5} {S S' : Nat → Prop} {xs : List Value}, s9 w ks S xs → (∀ b, S b → S' b) → s9 w ks S' xs
 | [], _, _, _, h, _ => h
 | _ :: _, _, _, _, ⟨c, ys, S1, S2, h1, h2, h3, h4, h5⟩, hs => ⟨c, ys, S1, S2, h1, fun b hb => ⟨hs b (h2 b hb).1, (h2 b hb).2⟩, fun b hb => hs b (h3 b hb), h4, h5⟩
theorem s8.mono : ∀ {ks : List b6} {S S' : Nat → Prop} {xs : List Value}, s8 w ks S xs → (∀ b, S b → S' b) → s8 w ks S' xs
 | [], _, _, _, h, _ => h
 | _ :: _, _, _, _, ⟨c, ys, S1, S2, h1, h2, h3, h4, h5⟩, hs => ⟨c, ys, S1, S2, h1, fun b hb => ⟨hs b (h2 b hb).1, (h2 b hb).2⟩, fun b hb => hs b (h3 b hb), h4, h5⟩
theorem s9.snoc : ∀ {ks : List b5} {S S' T : Nat → Prop} {xs c : List Value} {e : b5}, s9 w ks S xs → F0 w e T c → (∀ b, S b → S' b ∧ ¬ T b) → (∀ b, T b → S' b) → s9 w (ks ++ [e]) S' (xs ++ c)
 | [], S, S', T, xs, c, e, h, k, d, f => by
  rw [show xs = [] from h]
  exact ⟨c, [], T, fun _ => False, by simp, fun b hb => ⟨f b hb, fun h => h⟩, fun b hb => hb.elim, k, rfl⟩
 | a :: r, S, S', T, _, c, e, ⟨x, ys, S1, S2, h1, h2, h3, h4, h5⟩, k, d, f =>
  ⟨x, ys ++ c, S1, fun b => S2 b ∨ T b, by rw [h1, List.append_assoc], fun b hb => ⟨(d b (h2 b hb).1).1, fun h => h.elim (h2 b hb).2 (d b (h2 b hb).1).2⟩, fun b hb => hb.elim (fun h => (d b (h3 b h)).1) (f b), h4,
   s9.snoc h5 k (fun b hb => ⟨.inl hb, (d b (h3 b hb)).2⟩) fun b hb => .inr hb⟩
theorem s8.snoc : ∀ {ks : List b6} {S S' T : Nat → Prop} {xs c : List Value} {e : b6}, s8 w ks S xs → E8 w e T c → (∀ b, S b → S' b ∧ ¬ T b) → (∀ b, T b → S' b) → s8 w (ks ++ [e]) S' (xs ++ c)
 | [], S, S', T, xs, c, e, h, k, d, f => by
  rw [show xs = [] from h]
  exact ⟨c, [], T, fun _ => False, by simp, fun b hb => ⟨f b hb, fun h => h⟩, fun b hb => hb.elim, k, rfl⟩
 | a :: r, S, S', T, _, c, e, ⟨x, ys, S1, S2, h1, h2, h3, h4, h5⟩, k, d, f =>
  ⟨x, ys ++ c, S1, fun b => S2 b ∨ T b, by rw [h1, List.append_assoc], fun b hb => ⟨(d b (h2 b hb).1).1, fun h => h.elim (h2 b hb).2 (d b (h2 b hb).1).2⟩, fun b hb => hb.elim (fun h => (d b (h3 b h)).1) (f b), h4,
   s8.snoc h5 k (fun b hb => ⟨.inl hb, (d b (h3 b hb)).2⟩) fun b hb => .inr hb⟩
theorem F0.iff (e : b5) (S : Nat → Prop) (cs : List Value) : F0 w e S cs ↔ ∃ kv, cs = [.int .i64 e.kind, .int .i64 e.value, kv] ∧ A2 w kv e.kids S := by
 cases e with
 | mk k n ks => exact ⟨fun ⟨v, xs, T, h1, h2⟩ => ⟨v, h1, xs, T, h2⟩, fun ⟨v, h1, xs, T, h2⟩ => ⟨v, xs, T, h1, h2⟩⟩
theorem E8.iff (s : b6) (S : Nat → Prop) (cs : List Value) : E8 w s S cs ↔ ∃ (iv vv bv ev : Value) (Si Sv Sb Se : Nat → Prop), cs = [.int .i64 s.kind, .int .i64 s.target, .int .i64 s.index.kind, .int .i64 s.index.value, iv, .int .i64 s.value.kind, .int .i64 s.value.value, vv, .int .i64 s.count, bv, ev] ∧
  ((∀ b, Si b → S b ∧ ¬ Sv b ∧ ¬ Sb b ∧ ¬ Se b) ∧ (∀ b, Sv b → S b ∧ ¬ Sb b ∧ ¬ Se b) ∧ (∀ b, Sb b → S b ∧ ¬ Se b) ∧ (∀ b, Se b → S b)) ∧ A2 w iv s.index.kids Si ∧ A2 w vv s.value.kids Sv ∧ v9 w bv s.body Sb ∧ v9 w ev s.els Se := by
 cases s with
 | mk k t i v c b e =>
  exact ⟨fun ⟨iv, vv, bv, ev, xb, xe, Si, Sv, Sb, Se, Sb', Se', h1, h2, h3, h4, h5, h6⟩ => ⟨iv, vv, bv, ev, Si, Sv, Sb, Se, h1, h2, h3, h4, ⟨xb, Sb', h5⟩, ⟨xe, Se', h6⟩⟩,
   fun ⟨iv, vv, bv, ev, Si, Sv, Sb, Se, h1, h2, h3, h4, ⟨xb, Sb', h5⟩, ⟨xe, Se', h6⟩⟩ => ⟨iv, vv, bv, ev, xb, xe, Si, Sv, Sb, Se, Sb', Se', h1, h2, h3, h4, h5, h6⟩⟩
end
def natEq (a b : Nat) : Bool := a == b
def O7 (w : World) : List (List Int) → (Nat → Prop) → List Value → Prop
 | [], _, xs => xs = []
 | r :: rs, S, xs => ∃ (v : Value) (ys : List Value) (S2 : Nat → Prop), xs = v :: ys ∧ w.ownsRow 0 3 1 v r.length (ints r) ∧ (∀ g, v.ownBlock = some g → S g ∧ ¬ S2 g) ∧ (∀ b, S2 b → S b) ∧ O7 w rs S2 ys
def Q1 (w : World) : D → (Nat → Prop) → List Value → Prop
 | .exprs l, S, xs => s9 w l S xs
 | .stmts l, S, xs => s8 w l S xs
 | .rows l, S, xs => O7 w l S xs
 | _, _, _ => False
def ak1 : D → Option TypeId
 | .exprs _ => some 104
 | .stmts _ => some 106
 | .rows _ => some 23
 | _ => none
def F8 (w : World) (S : Nat → Prop) (d : D) (v : Value) : Prop :=
 ∃ (e : TypeId) (xs : List Value) (S' : Nat → Prop), ak1 d = some e ∧ w.ownsRow 0 e d.sz v d.len xs ∧ (∀ g, v.ownBlock = some g → S g ∧ ¬ S' g) ∧ (∀ b, S' b → S b) ∧ Q1 w d S' xs
section
variable {w w' : World} {S S' T φ : Nat → Prop}
theorem O7.same : ∀ {l : List (List Int)} {S : Nat → Prop} {xs : List Value}, O7 w l S xs → (∀ b, S b → b < w.heap.size → w'.heap[b]? = w.heap[b]?) → O7 w' l S xs
 | [], _, _, h, _ => h
 | _ :: _, _, _, ⟨v, ys, S2, h1, h2, h3, h4, h5⟩, hs => ⟨v, ys, S2, h1, G9 h2 fun g hg => hs g (h3 g hg).1 (World.ownsRow.lt h2 g hg).2, h3, h4, O7.same h5 fun b hb => hs b (h4 b hb)⟩
theorem O7.mono : ∀ {l : List (List Int)} {S S' : Nat → Prop} {xs : List Value}, O7 w l S xs → (∀ b, S b → S' b) → O7 w l S' xs
 | [], _, _, _, h, _ => h
 | _ :: _, _, _, _, ⟨v, ys, S2, h1, h2, h3, h4, h5⟩, hs => ⟨v, ys, S2, h1, h2, fun g hg => ⟨hs g (h3 g hg).1, (h3 g hg).2⟩, fun b hb => hs b (h4 b hb), h5⟩
theorem O7.app : ∀ {a b : List (List Int)} {S T S' : Nat → Prop} {xs ys : List Value}, O7 w a S xs → O7 w b T ys → (∀ x, S x → S' x ∧ ¬ T x) → (∀ x, T x → S' x) → O7 w (a ++ b) S' (xs ++ ys)
 | [], b, _, _, _, xs, ys, h, k, _, f => by rw [show xs = [] from h]; exact k.mono f
 | _ :: _, b, _, T, _, _, ys, ⟨v, zs, S2, h1, h2, h3, h4, h5⟩, k, d, f =>
  ⟨v, zs ++ ys, fun x => S2 x ∨ T x, by rw [h1]; rfl, h2, fun g hg => ⟨(d g (h3 g hg).1).1, fun h => h.elim (h3 g hg).2 (d g (h3 g hg).1).2⟩, fun x hx => hx.elim (fun h => (d x (h4 x h)).1) (f x),
   O7.app h5 k (fun x hx => ⟨.inl hx, (d x (h4 x hx)).2⟩) fun x hx => .inr hx⟩
theorem s9.app : ∀ {a b : List b5} {S T S' : Nat → Prop} {xs ys : List Value}, s9 w a S xs → s9 w b T ys → (∀ x, S x → S' x ∧ ¬ T x) → (∀ x, T x → S' x) → s9 w (a ++ b) S' (xs ++ ys)
 | [], b, _, _, _, xs, ys, h, k, _, f => by rw [show xs = [] from h]; exact k.mono f
 | _ :: _, b, _, T, _, _, ys, ⟨c, zs, S1, S2, h1, h2, h3, h4, h5⟩, k, d, f =>
  ⟨c, zs ++ ys, S1, fun x => S2 x ∨ T x, by rw [h1, List.append_assoc], fun x hx => ⟨(d x (h2 x hx).1).1, fun h => h.elim (h2 x hx).2 (d x (h2 x hx).1).2⟩, fun x hx => hx.elim (fun h => (d x (h3 x h)).1) (f x), h4,
   s9.app h5 k (fun x hx => ⟨.inl hx, (d x (h3 x hx)).2⟩) fun x hx => .inr hx⟩
theorem s8.app : ∀ {a b : List b6} {S T S' : Nat → Prop} {xs ys : List Value}, s8 w a S xs → s8 w b T ys → (∀ x, S x → S' x ∧ ¬ T x) → (∀ x, T x → S' x) → s8 w (a ++ b) S' (xs ++ ys)
 | [], b, _, _, _, xs, ys, h, k, _, f => by rw [show xs = [] from h]; exact k.mono f
 | _ :: _, b, _, T, _, _, ys, ⟨c, zs, S1, S2, h1, h2, h3, h4, h5⟩, k, d, f =>
  ⟨c, zs ++ ys, S1, fun x => S2 x ∨ T x, by rw [h1, List.append_assoc], fun x hx => ⟨(d x (h2 x hx).1).1, fun h => h.elim (h2 x hx).2 (d x (h2 x hx).1).2⟩, fun x hx => hx.elim (fun h => (d x (h3 x h)).1) (f x), h4,
   s8.app h5 k (fun x hx => ⟨.inl hx, (d x (h3 x hx)).2⟩) fun x hx => .inr hx⟩
theorem Q1.same {d : D} {xs : List Value} (h : Q1 w d S xs) (hs : ∀ b, S b → b < w.heap.size → w'.heap[b]? = w.heap[b]?) : Q1 w' d S xs := by
 cases d <;> simp only [Q1] at h ⊢
 ·exact h.same hs
 ·exact s9.same _ _ _ h hs
 ·exact s8.same _ _ _ h hs
theorem Q1.mono {d : D} {xs : List Value} (h : Q1 w d S xs) (hs : ∀ b, S b → S' b) : Q1 w d S' xs := by
 cases d <;> simp only [Q1] at h ⊢
 ·exact h.mono hs
 ·exact s9.mono h hs
 ·exact s8.mono h hs
theorem Q1.cut {d : D} {xs : List Value} (h : Q1 w d S xs) : Q1 w d (fun b => S b ∧ b < w.heap.size) xs := by
 cases d <;> simp only [Q1] at h ⊢
 ·rename_i l
  have : ∀ {l : List (List Int)} {S : Nat → Prop} {xs : List Value}, O7 w l S xs → O7 w l (fun b => S b ∧ b < w.heap.size) xs := by
   intro l
   induction l with
   | nil => intro S xs h; exact h
   | cons r rs ih =>
    rintro S xs ⟨v, ys, S2, h1, h2, h3, h4, h5⟩
    exact ⟨v, ys, fun b => S2 b ∧ b < w.heap.size, h1, h2, fun g hg => ⟨⟨(h3 g hg).1, (World.ownsRow.lt h2 g hg).2⟩, fun h => (h3 g hg).2 h.1⟩, fun b hb => ⟨h4 b hb.1, hb.2⟩, ih h5⟩
  exact this h
 ·exact cutEs _ _ _ h
 ·exact cutSs _ _ _ h
where
 cutE : ∀ (e : b5) (S : Nat → Prop) (cs : List Value), F0 w e S cs → F0 w e (fun b => S b ∧ b < w.heap.size) cs
  | ⟨_, _, ks⟩, S, _, ⟨v, xs, S', h1, h2, h3, h4, h5⟩ => ⟨v, xs, fun b => S' b ∧ b < w.heap.size, h1, h2, fun g hg => ⟨⟨(h3 g hg).1, (World.ownsRow.lt h2 g hg).2⟩, fun h => (h3 g hg).2 h.1⟩, fun b hb => ⟨h4 b hb.1, hb.2⟩, cutEs ks S' xs h5⟩
 cutEs : ∀ (ks : List b5) (S : Nat → Prop) (xs : List Value), s9 w ks S xs → s9 w ks (fun b => S b ∧ b < w.heap.size) xs
  | [], _, _, h => h
  | e :: r, S, _, ⟨c, ys, S1, S2, h1, h2, h3, h4, h5⟩ => ⟨c, ys, fun b => S1 b ∧ b < w.heap.size, fun b => S2 b ∧ b < w.heap.size, h1, fun b hb => ⟨⟨(h2 b hb.1).1, hb.2⟩, fun h => (h2 b hb.1).2 h.1⟩, fun b hb => ⟨h3 b hb.1, hb.2⟩, cutE e S1 c h4, cutEs r S2 ys h5⟩
 cutS : ∀ (s : b6) (S : Nat → Prop) (cs : List Value), E8 w s S cs → E8 w s (fun b => S b ∧ b < w.heap.size) cs
  | ⟨_, _, i, v, _, b, e⟩, S, _, ⟨iv, vv, bv, ev, xb, xe, Si, Sv, Sb, Se, Sb', Se', h1, ⟨d1, d2, d3, d4⟩, ⟨xi, Ti, i1, i2, i3, i4⟩, ⟨xv, Tv, v1, v2, v3, v4⟩, ⟨b1, b2, b3, b4⟩, ⟨e1, e2, e3, e4⟩⟩ =>
   ⟨iv, vv, bv, ev, xb, xe, fun b => Si b ∧ b < w.heap.size, fun b => Sv b ∧ b < w.heap.size, fun b => Sb b ∧ b < w.heap.size, fun b => Se b ∧ b < w.heap.size, fun b => Sb' b ∧ b < w.heap.size, fun b => Se' b ∧ b < w.heap.size, h1,
    ⟨fun b hb => ⟨⟨(d1 b hb.1).1, hb.2⟩, fun h => (d1 b hb.1).2.1 h.1, fun h => (d1 b hb.1).2.2.1 h.1, fun h => (d1 b hb.1).2.2.2 h.1⟩, fun b hb => ⟨⟨(d2 b hb.1).1, hb.2⟩, fun h => (d2 b hb.1).2.1 h.1, fun h => (d2 b hb.1).2.2 h.1⟩, fun b hb => ⟨⟨(d3 b hb.1).1, hb.2⟩, fun h => (d3 b hb.1).2 h.1⟩, fun b hb => ⟨d4 b hb.1, hb.2⟩⟩,
    ⟨xi, fun b => Ti b ∧ b < w.heap.size, i1, fun g hg => ⟨⟨(i2 g hg).1, (World.ownsRow.lt i1 g hg).2⟩, fun h => (i2 g hg).2 h.1⟩, fun b hb => ⟨i3 b hb.1, hb.2⟩, cutEs _ _ _ i4⟩,
    ⟨xv, fun b => Tv b ∧ b < w.heap.size, v1, fun g hg => ⟨⟨(v2 g hg).1, (World.ownsRow.lt v1 g hg).2⟩, fun h => (v2 g hg).2 h.1⟩, fun b hb => ⟨v3 b hb.1, hb.2⟩, cutEs _ _ _ v4⟩,
    ⟨b1, fun g hg => ⟨⟨(b2 g hg).1, (World.ownsRow.lt b1 g hg).2⟩, fun h => (b2 g hg).2 h.1⟩, fun b hb => ⟨b3 b hb.1, hb.2⟩, cutSs _ _ _ b4⟩,
    ⟨e1, fun g hg => ⟨⟨(e2 g hg).1, (World.ownsRow.lt e1 g hg).2⟩, fun h => (e2 g hg).2 h.1⟩, fun b hb => ⟨e3 b hb.1, hb.2⟩, cutSs _ _ _ e4⟩⟩
 cutSs : ∀ (ks : List b6) (S : Nat → Prop) (xs : List Value), s8 w ks S xs → s8 w ks (fun b => S b ∧ b < w.heap.size) xs
  | [], _, _, h => h
  | e :: r, S, _, ⟨c, ys, S1, S2, h1, h2, h3, h4, h5⟩ => ⟨c, ys, fun b => S1 b ∧ b < w.heap.size, fun b => S2 b ∧ b < w.heap.size, h1, fun b hb => ⟨⟨(h2 b hb.1).1, hb.2⟩, fun h => (h2 b hb.1).2 h.1⟩, fun b hb => ⟨h3 b hb.1, hb.2⟩, cutS e S1 c h4, cutSs r S2 ys h5⟩
theorem F8.same {d : D} {v : Value} (h : F8 w S d v) (hs : ∀ b, S b → b < w.heap.size → w'.heap[b]? = w.heap[b]?) : F8 w' S d v := by
 obtain ⟨e, xs, S', h0, h1, h2, h3, h4⟩ := h
 exact ⟨e, xs, S', h0, G9 h1 fun g hg => hs g (h2 g hg).1 (World.ownsRow.lt h1 g hg).2, h2, h3, h4.same fun b hb => hs b (h3 b hb)⟩
theorem F8.mono {d : D} {v : Value} (h : F8 w S d v) (hs : ∀ b, S b → S' b) : F8 w S' d v := by
 obtain ⟨e, xs, T, h0, h1, h2, h3, h4⟩ := h
 exact ⟨e, xs, T, h0, h1, fun g hg => ⟨hs g (h2 g hg).1, (h2 g hg).2⟩, fun b hb => hs b (h3 b hb), h4⟩
theorem F8.cut {d : D} {v : Value} (h : F8 w S d v) : F8 w (fun b => S b ∧ b < w.heap.size) d v := by
 obtain ⟨e, xs, T, h0, h1, h2, h3, h4⟩ := h
 exact ⟨e, xs, fun b => T b ∧ b < w.heap.size, h0, h1, fun g hg => ⟨⟨(h2 g hg).1, (World.ownsRow.lt h1 g hg).2⟩, fun h => (h2 g hg).2 h.1⟩, fun b hb => ⟨h3 b hb.1, hb.2⟩, h4.cut⟩
theorem F8.kids {l : List b5} {v : Value} : F8 w S (.exprs l) v ↔ A2 w v l S :=
 ⟨fun ⟨_, xs, S', h0, h1, h2, h3, h4⟩ => ⟨xs, S', by cases h0; exact h1, h2, h3, h4⟩, fun ⟨xs, S', h1, h2, h3, h4⟩ => ⟨_, xs, S', rfl, h1, h2, h3, h4⟩⟩
theorem F8.block {l : List b6} {v : Value} : F8 w S (.stmts l) v ↔ v9 w v l S :=
 ⟨fun ⟨_, xs, S', h0, h1, h2, h3, h4⟩ => ⟨xs, S', by cases h0; exact h1, h2, h3, h4⟩, fun ⟨xs, S', h1, h2, h3, h4⟩ => ⟨_, xs, S', rfl, h1, h2, h3, h4⟩⟩
theorem O7.at : ∀ {l : List (List Int)} {S : Nat → Prop} {xs : List Value}, O7 w l S xs → xs.length = l.length ∧ ∀ i (_ : i < l.length), ∃ u, xs[i]? = some u ∧ w.ownsRow 0 3 1 u l[i].length (ints l[i]) ∧ ∀ g, u.ownBlock = some g → S g
 | [], _, xs, h => ⟨by rw [show xs = [] from h]; rfl, fun i hi => by simp at hi⟩
 | r :: rs, S, _, ⟨v, ys, S2, h1, h2, h3, h4, h5⟩ => by
  subst h1
  obtain ⟨k1, k2⟩ := O7.at h5
  refine ⟨by simp [k1], fun i hi => ?_⟩
  cases i with
  | zero => exact ⟨v, rfl, h2, fun g hg => (h3 g hg).1⟩
  | succ i =>
   obtain ⟨u, a, b, c⟩ := k2 i (by simpa using hi)
   exact ⟨u, by simpa using a, b, fun g hg => h4 g (c g hg)⟩
theorem F8.read {d : D} {v : Value} (h : F8 w S d v) (hs : ∀ b, S b → φ b) : RD w φ d v := by
 cases d with
 | exprs l => exact A2.read (F8.kids.1 h) hs
 | stmts l => exact v9.read (F8.block.1 h) hs
 | rows l =>
  obtain ⟨e, xs, S', h0, h1, h2, h3, h4⟩ := h
  obtain ⟨k1, k2⟩ := O7.at h4
  exact ⟨xs, G0 h1 fun g hg => hs g (h2 g hg).1, fun i hi => let ⟨u, a, b, c⟩ := k2 i hi; ⟨u, a, G0 b fun g hg => hs g (h3 g (c g hg))⟩⟩
 | ints l => obtain ⟨_, _, _, h0, _⟩ := h; cases h0
 | bools l => obtain ⟨_, _, _, h0, _⟩ := h; cases h0
 | bytes l => obtain ⟨_, _, _, h0, _⟩ := h; cases h0
 | strs l => obtain ⟨_, _, _, h0, _⟩ := h; cases h0
 | instrs l => obtain ⟨_, _, _, h0, _⟩ := h; cases h0
 | events l => obtain ⟨_, _, _, h0, _⟩ := h; cases h0
 | brows l => obtain ⟨_, _, _, h0, _⟩ := h; cases h0
def H2 : Value → Value
 | .tuple a => a.getD 0 undef
 | v => v
def F6 : Value → Nat → Prop
 | .tuple a => fun b => Value.int .u64 (b : Int) ∈ a.toList.drop 1
 | _ => fun _ => False
theorem ao1 (v : Value) (S : Nat → Prop) (n : Nat) (h : ∀ b, S b → b < n) : ∃ x, H2 x = v ∧ ∀ b, F6 x b ↔ S b := by
 classical
 refine ⟨.tuple (v :: ((bG6 n).filter fun b => decide (S b)).map fun b : Nat => Value.int .u64 (b : Int)).toArray, rfl, fun b => ?_⟩
 simp only [F6, List.drop_succ_cons, List.drop_zero, List.mem_map, List.mem_filter, List.mem_range, decide_eq_true_eq]
 constructor
 ·rintro ⟨a, ⟨_, h1⟩, h2⟩
  simp only [Value.int.injEq, true_and] at h2
  have : a = b := by omega
  subst this; exact h1
 ·intro hb; exact ⟨b, ⟨h b hb, hb⟩, rfl⟩
end
inductive AV where
 | v (x : Value)
 | ptr (id off : Nat)
 | ea (id i j sz : Nat)
 | ref (id : Nat)
 | agg (l : List AV)
 | tup (l : List AV)
 | fn (f : Nat) (l : List AV)
 | bm (f : Nat) (l : List AV)
 | tref (id : Nat)
def V2 : Value → Nat
 | .pointer (some a) => a.block
 | _ => 0
def aF0 (n : Nat) : Value → Addr
 | .slice (some a) _ _ => ⟨a.block, a.off + n, none⟩
 | _ => ⟨0, n, none⟩
mutual
def AV.val (ρ : Nat → Value) : AV → Value
 | .v x => x
 | .ptr id off => .pointer (some ⟨V2 (ρ id), off, none⟩)
 | .ea id i j sz => .pointer (some (aF0 (i * sz + j) (H2 (ρ id))))
 | .ref id => ρ id
 | .agg l => .agg (AV.vals ρ l).toArray
 | .tup l => .tuple (AV.vals ρ l).toArray
 | .fn f l => .func (.func f) #[] (AV.vals ρ l).toArray
 | .bm f l => .func (.func f) (AV.vals ρ l).toArray #[]
 | .tref id => H2 (ρ id)
def AV.vals (ρ : Nat → Value) : List AV → List Value
 | [] => []
 | x :: r => x.val ρ :: AV.vals ρ r
end
mutual
def AV.ids : AV → List Nat
 | .v _ => []
 | .ptr id _ => [id]
 | .ea id _ _ _ => [id]
 | .ref id => [id]
 | .agg l => AV.idsL l
 | .tup l => AV.idsL l
 | .fn _ l => AV.idsL l
 | .bm _ l => AV.idsL l
 | .tref id => [id]
def AV.idsL : List AV → List Nat
 | [] => []
 | x :: r => x.ids ++ AV.idsL r
end
mutual
def AV.ren (σ : Nat → Nat) : AV → AV
 | .v x => .v x
 | .ptr id off => .ptr (σ id) off
 | .ea id i j sz => .ea (σ id) i j sz
 | .ref id => .ref (σ id)
 | .agg l => .agg (AV.renL σ l)
 | .tup l => .tup (AV.renL σ l)
 | .fn f l => .fn f (AV.renL σ l)
 | .bm f l => .bm f (AV.renL σ l)
 | .tref id => .tref (σ id)
def AV.renL (σ : Nat → Nat) : List AV → List AV
 | [] => []
 | x :: r => x.ren σ :: AV.renL σ r
end
mutual
theorem AV.val_congr {ρ ρ' : Nat → Value} : ∀ (x : AV), (∀ id ∈ x.ids, ρ' id = ρ id) → x.val ρ' = x.val ρ
 | .v _, _ => rfl
 | .ptr id _, h => by simp only [AV.val]; rw [h id (by simp [AV.ids])]
 | .ea id _ _ _, h => by simp only [AV.val]; rw [h id (by simp [AV.ids])]
 | .ref id, h => h id (by simp [AV.ids])
 | .agg l, h => by simp only [AV.val]; rw [AV.vals_congr l h]
 | .tup l, h => by simp only [AV.val]; rw [AV.vals_congr l h]
 | .fn _ l, h => by simp only [AV.val]; rw [AV.vals_congr l h]
 | .bm _ l, h => by simp only [AV.val]; rw [AV.vals_congr l h]
 | .tref id, h => by simp only [AV.val]; rw [h id (by simp [AV.ids])]
theorem AV.vals_congr {ρ ρ' : Nat → Value} : ∀ (l : List AV), (∀ id ∈ AV.idsL l, ρ' id = ρ id) → AV.vals ρ' l = AV.vals ρ l
 | [], _ => rfl
 | x :: r, h => by
  simp only [AV.vals]
  rw [AV.val_congr x fun id hi => h id (by simp [AV.idsL, hi]), AV.vals_congr r fun id hi => h id (by simp [AV.idsL, hi])]
end
mutual
theorem AV.val_ren {ρ : Nat → Value} {σ : Nat → Nat} : ∀ (x : AV), (x.ren σ).val ρ = x.val fun i => ρ (σ i)
 | .v _ => rfl
 | .ptr _ _ => rfl
 | .ea _ _ _ _ => rfl
 | .ref _ => rfl
 | .agg l => by simp only [AV.ren, AV.val]; rw [AV.vals_ren l]
 | .tup l => by simp only [AV.ren, AV.val]; rw [AV.vals_ren l]
 | .fn _ l => by simp only [AV.ren, AV.val]; rw [AV.vals_ren l]
 | .bm _ l => by simp only [AV.ren, AV.val]; rw [AV.vals_ren l]
 | .tref _ => rfl
theorem AV.vals_ren {ρ : Nat → Value} {σ : Nat → Nat} : ∀ (l : List AV), AV.vals ρ (AV.renL σ l) = AV.vals (fun i => ρ (σ i)) l
 | [] => rfl
 | x :: r => by simp only [AV.renL, AV.vals]; rw [AV.val_ren x, AV.vals_ren r]
end
theorem AV.vals_length (ρ : Nat → Value) (l : List AV) : (AV.vals ρ l).length = l.length := by
 induction l with
 | nil => rfl
 | cons x r ih => simp [AV.vals, ih]
theorem AV.vals_get (ρ : Nat → Value) : ∀ (l : List AV) (i : Nat), (AV.vals ρ l)[i]? = (l[i]?).map (AV.val ρ)
 | [], i => by simp [AV.vals]
 | x :: r, 0 => by simp [AV.vals]
 | x :: r, i + 1 => by simp [AV.vals, AV.vals_get ρ r i]
theorem AV.vals_append (ρ : Nat → Value) (l m : List AV) : AV.vals ρ (l ++ m) = AV.vals ρ l ++ AV.vals ρ m := by
 induction l with
 | nil => rfl
 | cons x r ih => simp [AV.vals, ih]
theorem AV.vals_take (ρ : Nat → Value) : ∀ (l : List AV) (n : Nat), AV.vals ρ (l.take n) = (AV.vals ρ l).take n
 | [], n => by simp [AV.vals]
 | x :: r, 0 => by simp [AV.vals]
 | x :: r, n + 1 => by simp [AV.vals, AV.vals_take ρ r n]
theorem AV.vals_drop (ρ : Nat → Value) : ∀ (l : List AV) (n : Nat), AV.vals ρ (l.drop n) = (AV.vals ρ l).drop n
 | [], n => by simp [AV.vals]
 | x :: r, 0 => by simp [AV.vals]
 | x :: r, n + 1 => by simp [AV.vals, AV.vals_drop ρ r n]
inductive It where
 | none
 | dead
 | box (cs : List AV)
 | dat (d : D)
 | row (e : TypeId) (d : D)
 | tree (d : D)
 | kept (e : Option TypeId) (d : D)
def It.ids : It → List Nat
 | .box cs => AV.idsL cs
 | _ => []
def It.ren (σ : Nat → Nat) : It → It
 | .box cs => .box (AV.renL σ cs)
 | x => x
def It.res (ρ : Nat → Value) (id : Nat) : It → Rs
 | .none => Rs.none
 | .dead => Rs.none
 | .box cs => .box (V2 (ρ id)) (AV.vals ρ cs)
 | .dat d => .dat fun w φ => RD w φ d (ρ id)
 | .row e d => .row e d.sz (ρ id) d.len fun xs w φ => RW w φ d xs
 | .tree d => .own (F6 (ρ id)) fun w => F8 w (F6 (ρ id)) d (H2 (ρ id))
 | (.kept (Option.some e) d) => .row e d.sz (ρ id) d.len fun xs w φ => RW w φ d xs
 | (.kept Option.none d) => .own (F6 (ρ id)) fun w => F8 w (F6 (ρ id)) d (H2 (ρ id))
def It.unK : It → It
 | (.kept (Option.some e) d) => .row e d
 | (.kept Option.none d) => .tree d
 | x => x
theorem It.res_unK {ρ : Nat → Value} {i : Nat} (x : It) : x.unK.res ρ i = x.res ρ i := by
 cases x with
 | kept e d => cases e <;> rfl
 | _ => rfl
theorem It.ids_unK (x : It) : x.unK.ids = x.ids := by
 cases x with
 | kept e d => cases e <;> rfl
 | _ => rfl
theorem It.unK_ren (σ : Nat → Nat) (x : It) : (x.ren σ).unK = x.unK.ren σ := by
 cases x with
 | kept e d => cases e <;> rfl
 | _ => rfl
theorem It.res_congr {ρ ρ' : Nat → Value} {id : Nat} (x : It) (h : ∀ i ∈ x.ids, ρ' i = ρ i) (hid : x = .none ∨ x = .dead ∨ ρ' id = ρ id) : x.res ρ' id = x.res ρ id := by
 cases x with
 | none => rfl
 | dead => rfl
 | box cs => rcases hid with h0 | h0 | h0 <;> first | cases h0 | (simp only [It.res]; rw [h0, AV.vals_congr cs h])
 | dat d => rcases hid with h0 | h0 | h0 <;> first | cases h0 | (simp only [It.res]; rw [h0])
 | row e d => rcases hid with h0 | h0 | h0 <;> first | cases h0 | (simp only [It.res]; rw [h0])
 | tree d => rcases hid with h0 | h0 | h0 <;> first | cases h0 | (simp only [It.res]; rw [h0])
 | kept e d => cases e <;> (rcases hid with h0 | h0 | h0 <;> first | cases h0 | (simp only [It.res]; rw [h0]))
theorem It.res_ren {ρ : Nat → Value} {σ : Nat → Nat} {i : Nat} (x : It) : (x.ren σ).res ρ (σ i) = x.res (fun i => ρ (σ i)) i := by
 cases x with
 | box cs => simp only [It.ren, It.res]; rw [AV.vals_ren]
 | kept e d => cases e <;> rfl
 | _ => rfl
def t7 (l : List It) : Nat → It := fun i => l.getD i .none
def t6 {ι : Type} (F : ι → Rs) (ρ : Nat → Value) (S : Nat → It) : ι ⊕ Nat → Rs
 | .inl i => F i
 | .inr j => (S j).res ρ j
def t5 (S : Nat → It) : List (Nat × It) → Nat → It
 | [], i => S i
 | (j, x) :: r, i => if i = j then x else t5 S r i
theorem ap2 {S : Nat → It} {l : List (Nat × It)} {i : Nat} (h : i ∉ l.map (·.1)) : t5 S l i = S i := by
 induction l with
 | nil => rfl
 | cons p r ih =>
  simp only [bI2, bI7, not_or] at h
  simp only [t5, if_neg h.1]; exact ih h.2
def Inv (S : Nat → It) (ρ : Nat → Value) (mk : List Nat) : Prop := ∀ ρ' : Nat → Value, (∀ id, id ∉ mk → ρ' id = ρ id) → ∀ j, (S j).res ρ' j = (S j).res ρ j
def F9 (mk : List Nat) (ρ ρ' : Nat → Value) : Prop := ∀ id, id ∉ mk → ρ' id = ρ id
theorem F9.refl (mk : List Nat) (ρ : Nat → Value) : F9 mk ρ ρ := fun _ _ => rfl
section
variable {P : Program} {ι : Type} {φ ψ : Nat → Prop} {w0 w w' : World} {F : ι → Rs} {ρ : Nat → Value} {S : Nat → It}
def M5 (P : Program) (o : Oper) (e : Operand → Value) (w : World) (K : Value → World → Prop) : Prop :=
 (∃ v w', (execOp e o).run P w = .ok (.value v) w' ∧ K v w') ∨ (∃ w', (execOp e o).run P w = .ok .skip w' ∧ K undef w') ∨
  ∃ f args w', (execOp e o).run P w = .ok (.enter f args) w' ∧ Calls P f args w' fun x w'' => ∃ v, x = .returned v ∧ K v w''
theorem M5.mono {o : Oper} {e : Operand → Value} {K K' : Value → World → Prop} (h : M5 P o e w K) (hk : ∀ v w', K v w' → K' v w') : M5 P o e w K' := by
 rcases h with ⟨v, w', h1, h2⟩ | ⟨w', h1, h2⟩ | ⟨f, args, w', h1, h2⟩
 ·exact .inl ⟨v, w', h1, hk _ _ h2⟩
 ·exact .inr (.inl ⟨w', h1, hk _ _ h2⟩)
 ·exact .inr (.inr ⟨f, args, w', h1, h2.mono fun x w'' ⟨v, h3, h4⟩ => ⟨v, h3, hk _ _ h4⟩⟩)
theorem M5.wp {ops : Array Oper} {Q : Exit → Act → World → Prop} {rest : List Oper} {o : Oper} {a : Act} (hw : Region.wanted o (yielded ops a.tmps) = true) (h : M5 P o a.eval w fun v w' => wpList P ops Q rest (a.put o.dst v) w') : wpList P ops Q (o :: rest) a w := by
 unfold wpList
 rw [if_pos hw]
 refine .inl ?_
 unfold Oper.wp
 rcases h with ⟨v, w', h1, h2⟩ | ⟨w', h1, h2⟩ | ⟨f, args, w', h1, h2⟩
 ·rw [h1]; exact h2
 ·rw [h1]; exact h2
 ·rw [h1]
  refine Calls.mono h2 fun x w'' ⟨v, h3, h4⟩ => ?_
  subst h3; exact h4
theorem a45 {ops : Array Oper} {Q : Exit → Act → World → Prop} {rest : List Oper} {o : Oper} {a : Act} (hw : Region.wanted o (yielded ops a.tmps) = false) (h : wpList P ops Q rest (a.put o.dst undef) w) : wpList P ops Q (o :: rest) a w := by
 unfold wpList
 rw [if_neg (by simp [hw])]; exact h
theorem n9.one (M : n9 φ ψ w0 w (t6 F ρ S)) (id : Nat) (x : It) (mk : List Nat) {ρ' : Nat → Value} (hi : Inv S ρ mk) (ha : F9 mk ρ ρ')
  (hk : C3 (fun b => ¬ ((S id).res ρ id).blk b) w w') (hg : ∀ g, (x.res ρ' id).blk g → ((S id).res ρ id).blk g ∨ w.heap.size ≤ g)
  (h : (x.res ρ' id).holds w' (X0 φ (t6 F ρ' (t5 S [(id, x)])))) : n9 φ ψ w0 w' (t6 F ρ' (t5 S [(id, x)])) := by
 have e : t6 F ρ S = t6 F ρ' S := by
  funext k; cases k with
  | inl i => rfl
  | inr j => exact (hi ρ' ha j).symm
 have hx : t6 F ρ' (t5 S [(id, x)]) (.inr id) = x.res ρ' id := by simp [t6, t5]
 refine n9.put M (.inr id) (fun k hk' => ?_) hk (by rw [hx]; exact h) (fun g hg' => hg g (by rw [hx] at hg'; exact hg'))
 rw [e]
 cases k with
 | inl i => rfl
 | inr j =>
  have : j ≠ id := fun e => hk' (by rw [e])
  simp [t6, t5, this]
theorem C3.any {ψ : Nat → Prop} {w w' : World} (b : Below w.heap.size w w') : C3 ψ w w' := C3.of_below b fun _ h _ => h
def xav : List X → Nat → List AV
 | [], _ => []
 | .v x :: r, id => .v x :: xav r id
 | .sl _ :: r, id => .ref id :: xav r (id + 1)
def O1 : List X → Nat → List (Nat × It)
 | [], _ => []
 | .v _ :: r, id => O1 r id
 | .sl d :: r, id => (id, .dat d) :: O1 r (id + 1)
theorem aL2 : ∀ {xs : List X} {id j : Nat}, j ∈ (O1 xs id).map (·.1) → id ≤ j
 | [], _, _, h => by simp [O1] at h
 | .v _ :: r, id, j, h => aL2 (xs := r) h
 | .sl d :: r, id, j, h => by
  simp only [O1, bI2, bI7] at h
  rcases h with rfl | h
  ·exact bF7 _
  ·have := aL2 h; omega
def XHs (w : World) (φ : Nat → Prop) : List X → List Value → Prop
 | [], [] => True
 | x :: r, u :: s => XH w φ x u ∧ XHs w φ r s
 | _, _ => False
theorem XHs.agr {φ φ' : Nat → Prop} (ha : J0 φ φ' w w') : ∀ {xs : List X} {us : List Value}, XHs w φ xs us → XHs w' φ' xs us
 | [], [], _ => trivial
 | _ :: _, _ :: _, h => ⟨XH.nice _ _ _ _ _ _ ha h.1, XHs.agr ha h.2⟩
 | [], _ :: _, h => h
 | _ :: _, [], h => h
theorem bd5 (S : Nat → It) (id : Nat) (x : It) (l : List (Nat × It)) (h : id ∉ l.map (·.1)) : t5 (t5 S [(id, x)]) l = t5 S ((id, x) :: l) := by
 funext i
 by_cases e : i = id
 ·subst e; rw [ap2 h]; simp [t5]
 ·have : ∀ (l : List (Nat × It)), t5 (t5 S [(id, x)]) l i = t5 S l i := by
   intro l
   induction l with
   | nil => simp [t5, e]
   | cons p r ih => simp only [t5]; split; rfl; exact ih
  rw [this]; simp [t5, e]
theorem n9.dats : ∀ (xs : List X) (us : List Value) (id : Nat) {ρ : Nat → Value} {S : Nat → It}, n9 φ ψ w0 w (t6 F ρ S) → XHs w (X0 φ (t6 F ρ S)) xs us → (∀ j ∈ (O1 xs id).map (·.1), S j = .none) → Inv S ρ ((O1 xs id).map (·.1)) →
  ∃ ρ', F9 ((O1 xs id).map (·.1)) ρ ρ' ∧ n9 φ ψ w0 w (t6 F ρ' (t5 S (O1 xs id))) ∧ us = AV.vals ρ' (xav xs id)
 | [], [], _, ρ, S, M, _, _, _ => ⟨ρ, F9.refl _ _, M, rfl⟩
 | .v x :: r, u :: s, id, ρ, S, M, h, hn, hi => by
  obtain ⟨ρ', h1, h2, h3⟩ := n9.dats r s id M h.2 hn hi
  exact ⟨ρ', h1, h2, by simp only [xav, AV.vals]; rw [← h3, show u = x from h.1]; rfl⟩
 | .sl d :: r, u :: s, id, ρ, S, M, h, hn, hi => by
  have hid : S id = .none := hn id (by simp [O1])
  have hnot : id ∉ (O1 r (id + 1)).map (·.1) := fun h => by have := aL2 h; omega
  have ha : F9 ((O1 (.sl d :: r) id).map (·.1)) ρ (fun j => if j = id then u else ρ j) := fun j hj => by
   have : j ≠ id := fun e => hj (by simp [O1, e])
   simp [this]
  have hsame : ∀ b, X0 φ (t6 F ρ S) b → X0 φ (t6 F (fun j => if j = id then u else ρ j) (t5 S [(id, .dat d)])) b := fun b hb => ⟨hb.1, fun k hk => by
   cases k with
   | inl i => exact hb.2 (.inl i) hk
   | inr j =>
    by_cases e : j = id
    ·subst e; simp only [t6, t5, if_true] at hk; exact hk.elim
    ·simp only [t6, t5, if_neg e] at hk
     rw [hi _ ha j] at hk
     exact hb.2 (.inr j) hk⟩
  have M1 := M.one id (.dat d) _ hi ha (C3.refl _ _) (fun g hg => hg.elim) (by
   refine ⟨RD.nice _ _, ?_⟩
   simp only [if_true]
   exact RD.nice _ _ _ _ _ _ (J0.mono fun b _ hb => hsame b hb) h.1)
  obtain ⟨ρ', h1, h2, h3⟩ := n9.dats r s (id + 1) M1 (XHs.agr (J0.mono fun b _ hb => hsame b hb) h.2)
   (fun j hj => by
    have : j ≠ id := fun e => hnot (e ▸ hj)
    simp only [t5, if_neg this]; exact hn j (by simp only [O1, bI2, bI7]; exact .inr hj))
   (fun ρ2 h2 j => by
    have ha2 : F9 ((O1 (.sl d :: r) id).map (·.1)) ρ ρ2 := fun k hk => by
     have hk1 : k ≠ id := fun e => hk (by simp [O1, e])
     rw [h2 k fun hh => hk (by simp only [O1, bI2, bI7]; exact .inr hh)]; simp [hk1]
    by_cases e : j = id
    ·subst e
     simp only [t5, if_true, It.res]
     rw [h2 j hnot]; simp
    ·simp only [t5, if_neg e]
     rw [hi _ ha2 j, hi _ ha j])
  refine ⟨ρ', fun j hj => ?_, by rw [bd5 _ _ _ _ hnot] at h2; exact h2, ?_⟩
  ·rw [h1 j fun hh => hj (by simp only [O1, bI2, bI7]; exact .inr hh)]
   exact ha j hj
  ·simp only [xav, AV.vals]
   rw [← h3]
   simp only [AV.val]
   rw [h1 id hnot]; simp
 | [], _ :: _, _, _, _, _, h, _, _ => h.elim
 | _ :: _, [], _, _, _, _, h, _, _ => by cases h
end
def A7 : List Prop → Prop
 | [] => True
 | p :: r => p ∧ A7 r
theorem A7.append {l m : List Prop} : A7 (l ++ m) ↔ A7 l ∧ A7 m := by
 induction l with
 | nil => simp [A7]
 | cons p r ih => simp [A7, ih, and_assoc]
def aQ7 (P : Program) (t : TypeId) : Option Bool :=
 match P.underlying t with
 | some (.struct _) => some true
 | some (.array _ _) => some true
 | some _ => some false
 | none => none
def V5 (P : Program) (t : TypeId) : Option Nat := (P.info? t).map (·.size)
def L4 (P : Program) (t : TypeId) : Option Value := (P.info? t).bind (·.zero)
def aA8 (P : Program) (t : TypeId) (f : Nat) : Option (Nat × TypeId) :=
 match P.underlying t with
 | some (.struct fs) => (fs[f]?).map fun f => (f.offset, f.type)
 | _ => none
def X3 (P : Program) (t : TypeId) : Option TypeId :=
 match P.underlying t with
 | some (.slice e) => some e
 | _ => none
theorem ai5 {P : Program} {t : TypeId} {b : Bool} (h : aQ7 P t = some b) (w : World) : (isAgg t).run P w = .ok b w := by
 unfold aQ7 at h
 unfold isAgg
 cases hu : P.underlying t with
 | none => rw [hu] at h; cases h
 | some d =>
  rw [Sem.run_bind, run_underlying hu]
  simp only [Result.andThen_ok]
  rw [hu] at h
  cases d <;> (simp at h; subst h; rfl)
theorem H3 {P : Program} {t : TypeId} {n : Nat} (h : V5 P t = some n) (w : World) : (sizeOf t).run P w = .ok n w := by
 unfold V5 at h
 obtain ⟨i, h1, h2⟩ := bF6.1 h
 simp [sizeOf, typeInfo, h1, h2]
theorem a96 {P : Program} {t : TypeId} {v : Value} (h : L4 P t = some v) (w : World) : (zeroValue t).run P w = .ok v w := by
 unfold L4 at h
 cases hi : P.info? t with
 | none => rw [hi] at h; cases h
 | some i =>
  rw [hi] at h
  have h' : i.zero = some v := h
  simp [zeroValue, typeInfo, hi, h']
theorem a18 {P : Program} {t : TypeId} {f off : Nat} {ft : TypeId} (h : aA8 P t f = some (off, ft)) : ∃ fs x, P.underlying t = some (.struct fs) ∧ fs[f]? = some x ∧ x.offset = off ∧ x.type = ft := by
 unfold aA8 at h
 cases hu : P.underlying t with
 | none => rw [hu] at h; cases h
 | some d =>
  rw [hu] at h
  cases d <;> first | cases h | skip
  rename_i fs
  obtain ⟨x, h1, h2⟩ := bF6.1 h
  cases h2
  exact ⟨fs, x, rfl, h1, rfl, rfl⟩
theorem W7 {P : Program} {t e : TypeId} (h : X3 P t = some e) : P.underlying t = some (.slice e) := by
 unfold X3 at h
 cases hu : P.underlying t with
 | none => rw [hu] at h; cases h
 | some d =>
  rw [hu] at h
  cases d <;> first | (cases h; rfl) | cases h
def ev (tm : Nat → Option AV) : Operand → Option AV
 | .tmp t => tm t
 | .const v => some (.v v)
 | .global g => some (.v (.pointer (some ⟨g, 0, none⟩)))
 | .func f => some (.fn f [])
def bc2 (op : BinOp) : Value → Value → Option (Value × List Prop)
 | .int k a, .int k' b =>
  if k = k' then
   match op with
   | .add => some (.int k (a + b), [k.wrap (a + b) = a + b])
   | .sub => some (.int k (a - b), [k.wrap (a - b) = a - b])
   | .mul => some (.int k (a * b), [k.wrap (a * b) = a * b])
   | .quo => some (.int k (a.tdiv b), [b ≠ 0, k.wrap (a.tdiv b) = a.tdiv b])
   | .rem => some (.int k (a.tmod b), [b ≠ 0])
   | .and => some (.int k (k.wrap (BitVec.ofInt k.bits a &&& BitVec.ofInt k.bits b).toNat), [])
   | .or => some (.int k (k.wrap (BitVec.ofInt k.bits a ||| BitVec.ofInt k.bits b).toNat), [])
   | .xor => some (.int k (k.wrap (BitVec.ofInt k.bits a ^^^ BitVec.ofInt k.bits b).toNat), [])
   | .andNot => some (.int k (k.wrap (BitVec.ofInt k.bits a &&& ~~~(BitVec.ofInt k.bits b)).toNat), [])
   | .eql => some (.bool (a == b), [])
   | .neq => some (.bool (a != b), [])
   | .lss => some (.bool (a < b), [])
   | .leq => some (.bool (a ≤ b), [])
   | .gtr => some (.bool (a > b), [])
   | .geq => some (.bool (a ≥ b), [])
   | _ => none
  else none
 | .string a, .string b =>
  match op with
  | .add => some (.string (a ++ b), [((a.size + b.size : Nat) : Int) ≤ 9223372036854775807])
  | .eql => some (.bool (a.toList == b.toList), [])
  | .neq => some (.bool !(a.toList == b.toList), [])
  | _ => none
 | _, _ => none
theorem bf5 {P : Program} {w : World} {op : BinOp} {t : TypeId} {a b r : Value} {obs : List Prop} {x y : Operand} (h : bc2 op a b = some (r, obs)) (ho : A7 obs) :
  ((do eqGuard op t x y a b; Go.binOp op t a b) : Sem Value).run P w = .ok r w := by
 have hg : (eqGuard op t x y a b).run P w = .ok () w := by
  unfold eqGuard
  cases a <;> cases b <;> first | (simp [bc2] at h; done) | (split <;> rfl)
 rw [Sem.run_bind, hg, Result.andThen_ok]
 cases a <;> cases b <;> first | (simp [bc2] at h; done) | skip
 ·rename_i k a k' b
  simp only [bc2] at h
  split at h
  ·rename_i hk
   subst hk
   cases op <;> simp only [reduceCtorEq] at h <;> first
    | (simp only [Option.some.injEq, Prod.mk.injEq] at h; obtain ⟨rfl, rfl⟩ := h; simp only [A7] at ho; simp [Go.binOp, Op.intArith, Op.intBits, Op.intCmp, Op.intDiv, ho]; done)
    | cases h
  ·cases h
 ·rename_i a b
  simp only [bc2] at h
  cases op <;> simp only [reduceCtorEq] at h <;> first
   | (simp only [Option.some.injEq, Prod.mk.injEq] at h; obtain ⟨rfl, rfl⟩ := h; simp only [A7] at ho; simp [Go.binOp, Op.stringOp, IntKind.max, IntKind.bits, IntKind.signed]; try (have := ho.1; omega); done)
   | cases h
def am8 {α : Type} (ys : List α) (p : Nat) : List α → List α
 | [] => ys
 | u :: r => am8 (ys.set p u) (p + 1) r
theorem AV.vals_set (ρ : Nat → Value) : ∀ (l : List AV) (i : Nat) (x : AV), AV.vals ρ (l.set i x) = (AV.vals ρ l).set i (x.val ρ)
 | [], i, x => by simp [AV.vals]
 | y :: r, 0, x => by simp [AV.vals]
 | y :: r, i + 1, x => by simp [AV.vals, AV.vals_set ρ r i x]
theorem AV.vals_setL (ρ : Nat → Value) : ∀ (us l : List AV) (p : Nat), AV.vals ρ (am8 l p us) = setFrom (AV.vals ρ l) p (AV.vals ρ us)
 | [], l, p => by simp [am8, AV.vals, setFrom]
 | u :: r, l, p => by simp only [am8, AV.vals, setFrom]; rw [AV.vals_setL ρ r _ _, AV.vals_set]
theorem X4 : ∀ (us ys : List Value) (p : Nat), p + us.length ≤ ys.length → setFrom ys p us = ys.take p ++ us ++ ys.drop (p + us.length)
 | [], ys, p, h => by simp [setFrom]
 | u :: r, ys, p, h => by
  simp only [bF0] at h
  simp only [setFrom]
  rw [X4 r _ _ (by simp; omega), S8 _ _ _ (by omega), List.drop_set_of_lt (by omega)]
  simp [Nat.add_assoc, Nat.add_comm 1]
theorem az0 : ∀ (l : List Value) (k off : Nat) (c : Array Value), (l.zipIdx k).foldl (fun cs (x : Value × Nat) => cs.setIfInBounds (off + x.2) x.1) c = (setFrom c.toList (off + k) l).toArray
 | [], k, off, c => by simp [setFrom]
 | a :: r, k, off, c => by
  simp only [List.zipIdx_cons, List.foldl_cons, setFrom]
  rw [az0 r (k + 1) off]
  simp [Nat.add_assoc]
def AV.cells : AV → List AV
 | .agg l => l
 | x => [x]
def itD : It → Option D
 | .dat d => some d
 | .row _ d => some d
 | _ => none
def itB : It → Bool
 | .box _ => true
 | _ => false
def itT : It → Option D
 | .tree d => some d
 | _ => none
mutual
def okc (S : Nat → It) : AV → Bool
 | .v x => x.oneCell'
 | .ptr a _ => itB (S a)
 | .ea a _ _ _ => (itD (S a)).isSome
 | .ref a => (itD (S a)).isSome
 | .fn _ l => aC5 S l
 | .bm _ l => X9 S l
 | .tref a => (itT (S a)).isSome
 | .agg _ => false
 | .tup _ => false
def aC5 (S : Nat → It) : List AV → Bool
 | [] => true
 | x :: r => okc S x && aC5 S r
def X9 (S : Nat → It) : List AV → Bool
 | [] => true
 | x :: r => (match x with | .agg l => aC5 S l | y => okc S y) && X9 S r
end
def aw8 (S : Nat → It) (x : AV) : Bool := match x with
 | .agg l => aC5 S l
 | x => okc S x
mutual
theorem K9 {S : Nat → It} {id : Nat} (hS : S id = .none) : ∀ {x : AV}, okc S x = true → id ∉ x.ids
 | .v _, _ => by simp [AV.ids]
 | .ptr a _, h => by
  simp only [AV.ids, bH9]
  intro e; subst e; simp [okc, hS, itB] at h
 | .ea a _ _ _, h => by
  simp only [AV.ids, bH9]
  intro e; subst e; simp [okc, hS, itD] at h
 | .ref a, h => by
  simp only [AV.ids, bH9]
  intro e; subst e; simp [okc, hS, itD] at h
 | .fn _ l, h => aq1 hS (by simpa [okc] using h)
 | .bm _ l, h => P6 hS (by simpa [okc] using h)
 | .tref a, h => by
  simp only [AV.ids, bH9]
  intro e; subst e; simp [okc, hS, itT] at h
 | .agg _, h => by simp [okc] at h
 | .tup _, h => by simp [okc] at h
theorem aq1 {S : Nat → It} {id : Nat} (hS : S id = .none) : ∀ {l : List AV}, aC5 S l = true → id ∉ AV.idsL l
 | [], _ => by simp [AV.idsL]
 | x :: r, h => by
  simp only [aC5, bE9] at h
  simp only [AV.idsL, bH6, not_or]
  exact ⟨K9 hS h.1, aq1 hS h.2⟩
theorem P6 {S : Nat → It} {id : Nat} (hS : S id = .none) : ∀ {l : List AV}, X9 S l = true → id ∉ AV.idsL l
 | [], _ => by simp [AV.idsL]
 | .agg l :: r, h => by
  simp only [X9, bE9] at h
  simp only [AV.idsL, AV.ids, bH6, not_or]
  exact ⟨aq1 hS h.1, P6 hS h.2⟩
 | .v x :: r, h => by
  simp only [X9, bE9] at h
  simp only [AV.idsL, bH6, not_or]
  exact ⟨K9 hS h.1, P6 hS h.2⟩
 | .ptr a b :: r, h => by
  simp only [X9, bE9] at h
  simp only [AV.idsL, bH6, not_or]
  exact ⟨K9 hS h.1, P6 hS h.2⟩
 | .ea a b c d :: r, h => by
  simp only [X9, bE9] at h
  simp only [AV.idsL, bH6, not_or]
  exact ⟨K9 hS h.1, P6 hS h.2⟩
 | .ref a :: r, h => by
  simp only [X9, bE9] at h
  simp only [AV.idsL, bH6, not_or]
  exact ⟨K9 hS h.1, P6 hS h.2⟩
 | .tup l :: r, h => by
  simp only [X9, bE9] at h
  simp [okc] at h
 | .fn f l :: r, h => by
  simp only [X9, bE9] at h
  simp only [AV.idsL, bH6, not_or]
  exact ⟨K9 hS h.1, P6 hS h.2⟩
 | .bm f l :: r, h => by
  simp only [X9, bE9] at h
  simp only [AV.idsL, bH6, not_or]
  exact ⟨K9 hS h.1, P6 hS h.2⟩
 | .tref a :: r, h => by
  simp only [X9, bE9] at h
  simp only [AV.idsL, bH6, not_or]
  exact ⟨K9 hS h.1, P6 hS h.2⟩
end
theorem bg4 {S : Nat → It} {id : Nat} (hS : S id = .none) {x : AV} (h : aw8 S x = true) : id ∉ AV.idsL x.cells := by
 cases x with
 | agg l => exact aq1 hS h
 | v y => simp [AV.cells, AV.idsL, AV.ids]
 | ptr a b => have := K9 hS (x := .ptr a b) h; simpa [AV.cells, AV.idsL] using this
 | ea a b c d => have := K9 hS (x := .ea a b c d) h; simpa [AV.cells, AV.idsL] using this
 | ref a => have := K9 hS (x := .ref a) h; simpa [AV.cells, AV.idsL] using this
 | fn a b => have := K9 hS (x := .fn a b) h; simpa [AV.cells, AV.idsL] using this
 | bm a b => have := K9 hS (x := .bm a b) h; simpa [AV.cells, AV.idsL] using this
 | tref a => have := K9 hS (x := .tref a) h; simpa [AV.cells, AV.idsL] using this
 | tup l => cases h
section
variable {P : Program} {ι : Type} {φ ψ : Nat → Prop} {w0 w w' : World} {F : ι → Rs} {ρ : Nat → Value} {S : Nat → It}
theorem n9.datAt (M : n9 φ ψ w0 w (t6 F ρ S)) {id : Nat} {d : D} (h : S id = .dat d) : RD w (X0 φ (t6 F ρ S)) d (ρ id) := by
 have := M.holds (.inr id)
 simp only [t6, h, It.res] at this
 exact this.2
theorem n9.rowAt (M : n9 φ ψ w0 w (t6 F ρ S)) {id : Nat} {e : TypeId} {d : D} (h : S id = .row e d) : ∃ xs, w.ownsRow 0 e d.sz (ρ id) d.len xs ∧ RW w (X0 φ (t6 F ρ S)) d xs := by
 have := M.holds (.inr id)
 simp only [t6, h, It.res] at this
 exact this.2
theorem n9.boxAt (M : n9 φ ψ w0 w (t6 F ρ S)) {id : Nat} {cs : List AV} (h : S id = .box cs) : Blk w (V2 (ρ id)) (AV.vals ρ cs) := by
 have := M.holds (.inr id)
 simp only [t6, h, It.res] at this
 exact this
theorem n9.sliceAt (M : n9 φ ψ w0 w (t6 F ρ S)) {id : Nat} {d : D} (h : itD (S id) = some d) : ∃ a cap, ρ id = .slice a d.len cap ∧ d.len ≤ cap ∧ cap ≤ maxLen ∧
  ∀ i, i < d.len → ∃ b off, a = some ⟨b, off, none⟩ ∧ ∀ j x, (d.elem i)[j]? = some x → ∃ u, w.cell? ⟨b, off + (i * d.sz + j), none⟩ = some u ∧ XH w (X0 φ (t6 F ρ S)) x u := by
 cases hS : S id with
 | dat d' =>
  rw [hS] at h; cases h
  obtain ⟨a, cap, h1, h2, h3, h4⟩ := (M.datAt hS).open
  exact ⟨a, cap, h1, h2, h3, fun i hi => let ⟨b, off, e, _, _, hc⟩ := h4 i hi; ⟨b, off, e, hc⟩⟩
 | row e d' =>
  rw [hS] at h; cases h
  obtain ⟨xs, h1, h2⟩ := M.rowAt hS
  obtain ⟨_, a, cap, hv, k1, k2, k3⟩ := X5 h1
  refine ⟨a, cap, hv, k1, k2, fun i hi => ?_⟩
  obtain ⟨b, off, e, _, hc⟩ := k3 (by omega)
  exact ⟨b, off, e, fun j x hx => let ⟨u, hu, hh⟩ := h2 i hi j x hx; ⟨u, hc _ u hu, hh⟩⟩
 | none => rw [hS] at h; cases h
 | dead => rw [hS] at h; cases h
 | box cs => rw [hS] at h; cases h
 | tree d => rw [hS] at h; cases h
 | kept e d => rw [hS] at h; cases h
theorem n9.treeAt (M : n9 φ ψ w0 w (t6 F ρ S)) {id : Nat} {d : D} (h : itT (S id) = some d) : F8 w (F6 (ρ id)) d (H2 (ρ id)) ∧ ∀ b, F6 (ρ id) b → b < w.heap.size := by
 have hS : S id = .tree d := by
  cases hx : S id <;> rw [hx] at h <;> simp [itT] at h
  rw [h]
 have := M.holds (.inr id)
 simp only [t6, hS, It.res] at this
 exact ⟨this.2.1, this.2.2⟩
theorem aA9 {S : Nat → Prop} {d : D} {v : Value} (h : F8 w S d v) : ∃ a cap, v = .slice a d.len cap := by
 obtain ⟨e, xs, S', h0, h1, h2, h3, h4⟩ := h
 rcases h1.2 with ⟨hv, hn⟩ | ⟨g, cap, cur, hv, _⟩
 ·exact ⟨none, 0, by rw [hv, hn]⟩
 ·exact ⟨_, cap, hv⟩
theorem a51 (M : n9 φ ψ w0 w (t6 F ρ S)) {x : AV} (h : okc S x = true) : (x.val ρ).oneCell' = true := by
 cases x with
 | v x => exact h
 | ref id =>
  obtain ⟨d, hd⟩ := bI6.1 (show (itD (S id)).isSome = true from h)
  obtain ⟨a, cap, e, _⟩ := M.sliceAt hd
  simp only [AV.val]; rw [e]; rfl
 | tref id =>
  obtain ⟨d, hd⟩ := bI6.1 (show (itT (S id)).isSome = true from h)
  obtain ⟨a, cap, e⟩ := aA9 (M.treeAt hd).1
  simp only [AV.val]; rw [e]; rfl
 | agg l => cases h
 | tup l => cases h
 | _ => rfl
theorem a52 (M : n9 φ ψ w0 w (t6 F ρ S)) : ∀ {l : List AV}, aC5 S l = true → ∀ u ∈ AV.vals ρ l, u.oneCell' = true
 | [], _, u, hu => by simp [AV.vals] at hu
 | x :: r, h, u, hu => by
  simp only [aC5, bE9] at h
  simp only [AV.vals, bI7] at hu
  rcases hu with rfl | hu
  ·exact a51 M h.1
  ·exact a52 M h.2 u hu
theorem aP5 {u : Value} (h : u.oneCell' = true) : u.cells = #[u] := by
 cases u <;> first | rfl | cases h
theorem X8 (M : n9 φ ψ w0 w (t6 F ρ S)) {x : AV} (h : okc S x = true) (hx : x.cells = [x]) : (x.val ρ).cells = (AV.vals ρ x.cells).toArray ∧ ∀ u ∈ AV.vals ρ x.cells, u.oneCell' = true := by
 have h1 := a51 M h
 rw [hx]
 refine ⟨?_, ?_⟩
 ·rw [aP5 h1]; rfl
 ·intro u hu
  simp only [AV.vals, bH9] at hu
  subst hu; exact h1
theorem X7 (M : n9 φ ψ w0 w (t6 F ρ S)) {x : AV} (h : aw8 S x = true) : (x.val ρ).cells = (AV.vals ρ x.cells).toArray ∧ ∀ u ∈ AV.vals ρ x.cells, u.oneCell' = true := by
 cases x with
 | agg l => exact ⟨rfl, a52 M h⟩
 | v y => exact X8 M (x := .v y) h rfl
 | ptr a b => exact X8 M (x := .ptr a b) h rfl
 | ea a b c d => exact X8 M (x := .ea a b c d) h rfl
 | ref a => exact X8 M (x := .ref a) h rfl
 | fn a b => exact X8 M (x := .fn a b) h rfl
 | bm a b => exact X8 M (x := .bm a b) h rfl
 | tref a => exact X8 M (x := .tref a) h rfl
 | tup l => cases h
def aV2 (P : Program) (t : TypeId) (S : Nat → It) (e : Operand → Option AV) : List AV → List (Nat × Operand) → Option (List AV)
 | cs, [] => some cs
 | cs, (i, x) :: r =>
  match aA8 P t i, e x with
  | some (off, ft), some v => if aw8 S v && decide (V5 P ft = some v.cells.length) && decide (off + v.cells.length ≤ cs.length) then aV2 P t S e (am8 cs off v.cells) r else none
  | _, _ => none
theorem a68 (M : n9 φ ψ w0 w (t6 F ρ S)) {t : TypeId} {fs : Array Field} (hu : P.underlying t = some (.struct fs)) {e : Operand → Option AV} {g : Operand → Value} {places : Array (Nat × Nat)}
  (hp : ∀ i off ft n, aA8 P t i = some (off, ft) → V5 P ft = some n → places[i]? = some (off, n)) :
  ∀ (parts : List (Nat × Operand)) (cs r : List AV), (∀ p ∈ parts, ∀ v, e p.2 = some v → g p.2 = v.val ρ) → aV2 P t S e cs parts = some r → Instr.fill (places[·]?) (AV.vals ρ cs).toArray (parts.map fun p => (p.1, g p.2)) = some (AV.vals ρ r).toArray
 | [], cs, r, _, h => by simp only [aV2, Option.some.injEq] at h; subst h; rfl
 | (i, x) :: rest, cs, r, hg, h => by
  simp only [aV2] at h
  split at h
  ·rename_i off ft v h1 h2
   split at h
   ·rename_i hc
    simp only [bE9, decide_eq_true_eq] at hc
    obtain ⟨⟨k1, k2⟩, k3⟩ := hc
    have hv := hg (i, x) bG8 v h2
    simp only at hv
    obtain ⟨c1, _⟩ := X7 M k1
    simp only [bI2, Instr.fill]
    rw [hp i off ft _ h1 k2, hv, c1]
    simp only [List.size_toArray, AV.vals_length]
    have : ¬ off + v.cells.length > cs.length := by omega
    simp only [ne_eq, not_true_eq_false, decide_false, Bool.false_or, decide_eq_true_eq, this, if_false]
    have ih := a68 M hu hp rest (am8 cs off v.cells) r (fun p hp' => hg p (bH2 _ hp')) h
    rw [AV.vals_setL] at ih
    rw [← ih]
    congr 1
    have hz := az0 (AV.vals ρ v.cells) 0 off (AV.vals ρ cs).toArray
    simp only [Nat.add_zero] at hz
    rw [← hz]
    simp [Array.zipIdx, ← Array.foldl_toList, List.mapIdx_eq_zipIdx_map]
   ·cases h
  ·cases h
end
def D.sub : D → Nat → Nat → D
 | .ints x, l, h => .ints ((x.take h).drop l)
 | .bools x, l, h => .bools ((x.take h).drop l)
 | .bytes x, l, h => .bytes ((x.take h).drop l)
 | .strs x, l, h => .strs ((x.take h).drop l)
 | .instrs x, l, h => .instrs ((x.take h).drop l)
 | .events x, l, h => .events ((x.take h).drop l)
 | .rows x, l, h => .rows ((x.take h).drop l)
 | .brows x, l, h => .brows ((x.take h).drop l)
 | .exprs x, l, h => .exprs ((x.take h).drop l)
 | .stmts x, l, h => .stmts ((x.take h).drop l)
def a63 (P : Program) (t : TypeId) : Bool := match P.underlying t with
 | some .bool => true
 | _ => false
def bx7 (P : Program) (t : TypeId) (op : BinOp) : Value → Value → Option (Value × List Prop)
 | .bool x, .bool y => if a63 P t then match op with
   | .eql => some (.bool (x == y), [])
   | .neq => some (.bool !(x == y), [])
   | _ => none
  else none
 | a, c => bc2 op a c
theorem bf4 {P : Program} {w : World} {op : BinOp} {t : TypeId} {a b r : Value} {obs : List Prop} {x y : Operand} (h : bx7 P t op a b = some (r, obs)) (ho : A7 obs) :
  ((do eqGuard op t x y a b; Go.binOp op t a b) : Sem Value).run P w = .ok r w := by
 unfold bx7 at h
 split at h
 ·rename_i x1 y1
  have hg : (eqGuard op t x y (.bool x1) (.bool y1)).run P w = .ok () w := by
   unfold eqGuard
   split <;> rfl
  rw [Sem.run_bind, hg, Result.andThen_ok]
  split at h
  ·rename_i hb
   have hu : P.underlying t = some .bool := by
    unfold a63 at hb
    split at hb
    ·assumption
    ·cases hb
   split at h <;> first | cases h | skip
   ·exact run_eql_bool w t x1 y1 hu
   ·exact run_neq_bool w t x1 y1 hu
  ·cases h
 ·exact bf5 h ho
def Z7 (P : Program) (e : Operand → Option AV) (S : Nat → It) : Op → Option (AV × List Prop)
 | .move x => (e x).map fun r => (r, [])
 | .assign x => (e x).map fun r => (r, [])
 | .binOp b t x y _ => match e x, e y with
  | some (.v a), some (.v c) => (bx7 P t b a c).map fun r => (.v r.1, r.2)
  | _, _ => none
 | .unOp o _ x => match o, e x with
  | .not, some (.v (.bool b)) => some (.v (.bool !b), [])
  | .neg, some (.v (.int k n)) => some (.v (.int k (0 - n)), [k.wrap (0 - n) = 0 - n])
  | _, _ => none
 | .nilCheck x => match e x with
  | some (.ptr a b) => some (.ptr a b, [])
  | some (.ea a b c d) => some (.ea a b c d, [])
  | some (.fn a b) => some (.fn a b, [])
  | some (.bm a b) => some (.bm a b, [])
  | _ => none
 | .fieldAddr s x f => match aA8 P s f, e x with
  | some (off, ft), some (.ptr a b) => if (V5 P ft).any (0 < ·) then some (.ptr a (b + off), []) else none
  | some (off, ft), some (.ea a b c d) => if (V5 P ft).any (0 < ·) then some (.ea a b (c + off) d, []) else none
  | _, _ => none
 | .field s x f => match aA8 P s f, e x with
  | some (off, ft), some (.agg l) =>
   match aQ7 P ft, V5 P ft with
   | some true, some n => some (.agg ((l.drop off).take n), [])
   | some false, _ => (l[off]?).map fun r => (r, [])
   | _, _ => none
  | _, _ => none
 | .extract x i => match e x with
  | some (.tup l) => (l[i]?).map fun r => (r, [])
  | _ => none
 | .indexAddr t x ix => match e x, e ix with
  | some (.ref id), some (.v (.int _ i)) =>
   match itD (S id), (X3 P t).bind (V5 P) with
   | some d, some n => if n = d.sz then some (.ea id i.toNat 0 d.sz, [0 ≤ i, i < (d.len : Int)]) else none
   | _, _ => none
  | some (.tref id), some (.v (.int _ i)) =>
   match itT (S id), (X3 P t).bind (V5 P) with
   | some d, some n => if n = d.sz then some (.ea id i.toNat 0 d.sz, [0 ≤ i, i < (d.len : Int)]) else none
   | _, _ => none
  | _, _ => none
 | .index t x ix => match e x, e ix with
  | some (.v (.string s)), some (.v (.int _ i)) =>
   match P.underlying t with
   | some .string => some (.v (.int .u8 ((s.data.toList.getD i.toNat 0).toNat : Int)), [0 ≤ i, i < (s.size : Int)])
   | _ => none
  | _, _ => none
 | .convert s d x => match e x with
  | some (.v (.int _ n)) =>
   match (P.underlying s).isSome, P.underlying d with
   | true, some (.int k) => some (.v (.int k n), [k.wrap n = n])
   | _, _ => none
  | some (.v (.string x)) =>
   match (P.underlying s).isSome, P.underlying d with
   | true, some .string => some (.v (.string x), [])
   | _, _ => none
  | _ => none
 | .makeFunc (.func f) first cap =>
  if first.isEmpty then (cap.toList.mapM e).map fun l => (.fn f l, []) else if cap.isEmpty then (first.toList.mapM e).map fun l => (.bm f l, []) else none
 | .build t parts =>
  match L4 P t, P.underlying t with
  | some z, some (.struct fs) =>
   match fs.toList.mapM (fun f => (P.info? f.type).map fun i => (f.offset, i.size)) with
   | some _ => (aV2 P t S e (z.cells.toList.map .v) parts.toList).map fun l => (.agg l, [])
   | none => none
  | _, _ => none
 | .call { callee := .builtin .len, args, argTypes } =>
  match args.toList, argTypes.toList with
  | [x], [t] => match e x, P.underlying t with
   | some (.ref id), some (.slice _) => (itD (S id)).map fun d => (.v (.int .i64 d.len), [])
   | some (.v (.slice _ n _)), some (.slice _) => some (.v (.int .i64 n), [])
   | some (.v (.string s)), some .string => some (.v (.int .i64 s.size), [])
   | some (.tref id), some (.slice _) => (itT (S id)).map fun d => (.v (.int .i64 d.len), [])
   | _, _ => none
  | _, _ => none
 | _ => none
section
variable {P : Program} {ι : Type} {φ ψ : Nat → Prop} {w0 w w' : World} {F : ι → Rs} {ρ : Nat → Value} {S : Nat → It}
theorem bj9 (n m : Nat) (v : Value) : (if m = 0 then aF0 n v else (⟨(aF0 n v).block, (aF0 n v).off + m, none⟩ : Addr)) = aF0 (n + m) v := by
 unfold aF0
 split
 ·rename_i h0
  subst h0
  split <;> simp
 ·split <;> simp [Nat.add_assoc]
theorem aT7 {α β : Type} {f : α → Option β} : ∀ {l : List α} {r : List β}, l.mapM f = some r → ∀ {i : Nat} {x : α} {y : β}, l[i]? = some x → f x = some y → r[i]? = some y
 | [], _, _, _, _, _, hx, _ => by simp at hx
 | a :: l, r, h, i, x, y, hx, hy => by
  rw [List.mapM_cons] at h
  cases ha : f a with
  | none => rw [ha] at h; simp at h
  | some b =>
   cases hr : l.mapM f with
   | none => rw [ha, hr] at h; simp at h
   | some m =>
    rw [ha, hr] at h
    simp at h; subst h
    cases i with
    | zero => simp at hx; subst hx; rw [ha] at hy; cases hy; rfl
    | succ i => simpa using aT7 hr (by simpa using hx) hy
theorem Z3 (ρ : Nat → Value) : ∀ (z : List Value), AV.vals ρ (z.map .v) = z
 | [] => rfl
 | a :: r => by simp only [bI2, AV.vals, AV.val]; rw [Z3 ρ r]
theorem ai9 {e : Operand → Option AV} {g : Operand → Value} : ∀ {xs : List Operand} {l : List AV}, (∀ x ∈ xs, ∀ v, e x = some v → g x = v.val ρ) → xs.mapM e = some l → xs.map g = AV.vals ρ l
 | [], l, _, h => by simp at h; subst h; rfl
 | x :: r, l, hg, h => by
  rw [List.mapM_cons] at h
  cases hx : e x with
  | none => rw [hx] at h; simp at h
  | some v =>
   cases hr : r.mapM e with
   | none => rw [hx, hr] at h; simp at h
   | some m =>
    rw [hx, hr] at h
    simp at h; subst h
    simp only [bI2, AV.vals]
    rw [hg x bG8 v hx, ai9 (fun y hy => hg y (bH2 _ hy)) hr]
theorem bn0 (M : n9 φ ψ w0 w (t6 F ρ S)) {o : Oper} {e : Operand → Option AV} {g : Operand → Value} (hg : ∀ x ∈ o.op.operands, ∀ v, e x = some v → g x = v.val ρ) {r : AV} {obs : List Prop} (h : Z7 P e S o.op = some (r, obs)) (ho : A7 obs) :
  (execOp g o).run P w = .ok (.value (r.val ρ)) w := by
 unfold execOp
 generalize o.op = op at *
 cases op <;> simp only [Z7] at h <;> first | cases h | skip
 case move x =>
  obtain ⟨v, h1, h2⟩ := bF6.1 h
  cases h2
  simp [hg x (by simp [Op.operands]) _ h1]
 case assign x =>
  obtain ⟨v, h1, h2⟩ := bF6.1 h
  cases h2
  simp [hg x (by simp [Op.operands]) _ h1]
 case binOp b t x y t' =>
  split at h
  ·rename_i a c h1 h2
   obtain ⟨v, h3, h4⟩ := bF6.1 h
   cases h4
   have hx := hg x (by simp [Op.operands]) _ h1
   have hy := hg y (by simp [Op.operands]) _ h2
   simp only [AV.val] at hx hy
   have hr := bf4 (P := P) (w := w) (t := t) (x := x) (y := y) (r := v.1) (obs := v.2) h3 ho
   simp only [hx, hy]
   rw [Sem.run_bind, hr]; rfl
  ·cases h
 case unOp b t x =>
  split at h <;> first | cases h | skip
  ·rename_i b h1
   simp [hg x (by simp [Op.operands]) _ h1, AV.val, Op.unary]
  ·rename_i k n h1
   simp only [A7] at ho
   have ho1 := ho.1
   simp only [Int.zero_sub] at ho1
   simp [hg x (by simp [Op.operands]) _ h1, AV.val, Op.unary, Op.intArith, ho1]
 case nilCheck x =>
  split at h <;> first | cases h | skip
  ·rename_i a b h1
   simp [hg x (by simp [Op.operands]) _ h1, AV.val]
  ·rename_i a b c d h1
   simp [hg x (by simp [Op.operands]) _ h1, AV.val]
  ·rename_i a b h1
   simp [hg x (by simp [Op.operands]) _ h1, AV.val]
  ·rename_i a b h1
   simp [hg x (by simp [Op.operands]) _ h1, AV.val]
 case fieldAddr s x f =>
  have key : ∀ (a : Addr) (off : Nat) (ft : TypeId), aA8 P s f = some (off, ft) → (V5 P ft).any (0 < ·) = true → (Instr.fieldAt s (.pointer (some a)) f).run P w = .ok (.pointer (some (a.add off))) w := by
   intro a off ft h1 h2
   obtain ⟨fs, y, k1, k2, k3, k4⟩ := a18 h1
   cases hn : V5 P ft with
   | none => rw [hn] at h2; cases h2
   | some n =>
    rw [hn] at h2
    simp at h2
    subst k4
    simp [Instr.fieldAt, run_underlying k1, k2, Instr.sureAddr, fieldPlace, H3 hn, k3]
    intro h0; omega
  split at h
  ·rename_i off ft a b h1 h2
   split at h
   ·rename_i hs
    cases h
    simp only [hg x (by simp [Op.operands]) _ h2, AV.val]
    rw [Sem.run_bind, key _ _ _ h1 hs]
    simp only [Result.andThen_ok, Sem.run_pure, Addr.add]
    split
    ·rename_i h0; subst h0; rfl
    ·rfl
   ·cases h
  ·rename_i off ft a b c d h1 h2
   split at h
   ·rename_i hs
    cases h
    simp only [hg x (by simp [Op.operands]) _ h2, AV.val]
    rw [Sem.run_bind, key _ _ _ h1 hs]
    simp only [Result.andThen_ok, Sem.run_pure, Addr.add]
    rw [bj9, Nat.add_assoc]
   ·cases h
  ·cases h
 case field s x f =>
  split at h <;> first | cases h | skip
  rename_i off ft l h1 h2
  obtain ⟨fs, y, k1, k2, k3, k4⟩ := a18 h1
  subst k3; subst k4
  have hx := hg x (by simp [Op.operands]) _ h2
  simp only [AV.val] at hx
  split at h <;> first | cases h | skip
  ·rename_i n h3 h4
   simp [Instr.field, run_underlying k1, k2, hx, asAgg, part, ai5 h3, H3 h4, AV.val, AV.vals_take, AV.vals_drop, List.take_drop]
  ·rename_i z h3
   obtain ⟨v, h5, h6⟩ := bF6.1 h
   cases h6
   simp [Instr.field, run_underlying k1, k2, hx, asAgg, part, ai5 h3, AV.vals_get, h5]
 case extract x i =>
  split at h <;> first | cases h | skip
  rename_i l h1
  obtain ⟨v, h2, h3⟩ := bF6.1 h
  cases h3
  simp [Instr.extract, hg x (by simp [Op.operands]) _ h1, AV.val, AV.vals_get, h2]
 case indexAddr t x ix =>
  split at h <;> first | cases h | skip
  ·rename_i id k i h1 h2
   split at h <;> first | cases h | skip
   rename_i d n h3 h4
   split at h <;> first | cases h | skip
   rename_i hn
   subst hn
   simp only [A7] at ho
   obtain ⟨e', h5, h6⟩ := Option.bind_eq_some_iff.1 h4
   obtain ⟨a, cap, hr, _, _, hc⟩ := M.sliceAt h3
   obtain ⟨b, off, rfl, _⟩ := hc i.toNat (by omega)
   have hx := hg x (by simp [Op.operands]) _ h1
   have hi := hg ix (by simp [Op.operands]) _ h2
   simp only [AV.val] at hx hi
   rw [hr] at hx
   simp [Instr.indexAt, hx, hi, asIntOf, run_underlying (W7 h5), H3 h6, ho.1, ho.2.1, AV.val, hr, H2, aF0, Addr.add]
  ·rename_i id k i h1 h2
   split at h <;> first | cases h | skip
   rename_i d n h3 h4
   split at h <;> first | cases h | skip
   rename_i hn
   subst hn
   simp only [A7] at ho
   obtain ⟨e', h5, h6⟩ := Option.bind_eq_some_iff.1 h4
   obtain ⟨e2, xs, S', _, k1, _⟩ := (M.treeAt h3).1
   rcases k1.2 with ⟨_, k2⟩ | ⟨b, cap, cur, hr, _⟩
   ·exfalso; omega
   have hx := hg x (by simp [Op.operands]) _ h1
   have hi := hg ix (by simp [Op.operands]) _ h2
   simp only [AV.val] at hx hi
   rw [hr] at hx
   simp [Instr.indexAt, hx, hi, asIntOf, run_underlying (W7 h5), H3 h6, ho.1, ho.2.1, AV.val, hr, aF0, Addr.add]
   intro h0; exact h0.symm
 case index t x ix =>
  split at h <;> first | cases h | skip
  rename_i s k i h1 h2
  split at h <;> first | cases h | skip
  rename_i h3
  simp only [A7] at ho
  have hx := hg x (by simp [Op.operands]) _ h1
  have hi := hg ix (by simp [Op.operands]) _ h2
  simp only [AV.val] at hx hi
  have hlt : i.toNat < s.size := by omega
  simp [Instr.index, hx, hi, asIntOf, run_underlying h3, ho.1, AV.val, hlt]
  rfl
 case convert s d x =>
  split at h <;> first | cases h | skip
  ·rename_i k n h1
   split at h <;> first | cases h | skip
   rename_i k' h2 h3
   simp only [A7] at ho
   obtain ⟨ds, hds⟩ := bI6.1 h2
   have hx := hg x (by simp [Op.operands]) _ h1
   simp only [AV.val] at hx
   cases ds <;> simp [convert, hx, run_underlying hds, run_underlying h3, Conv.intToInt, ho.1, AV.val]
  ·rename_i str h1
   split at h <;> first | cases h | skip
   rename_i h2 h3
   obtain ⟨ds, hds⟩ := bI6.1 h2
   have hx := hg x (by simp [Op.operands]) _ h1
   simp only [AV.val] at hx
   cases ds <;> simp [convert, hx, run_underlying hds, run_underlying h3, AV.val]
 case makeFunc fn first cap =>
  cases fn <;> simp only [Z7] at h <;> first | cases h | skip
  rename_i f
  split at h
  ·rename_i hf
   obtain ⟨l, h1, h2⟩ := bF6.1 h
   cases h2
   have hf' : first = #[] := by simpa using hf
   subst hf'
   have := ai9 (ρ := ρ) (g := g) (fun x hx v hv => hg x (by simp [Op.operands]; simpa using hx) v hv) h1
   simp only [Instr.makeFunc, AV.val, ← this]
   have : Array.map g cap = (List.map g cap.toList).toArray := by apply Array.ext'; simp
   simp [this]
  split at h <;> first | cases h | skip
  rename_i hf
  obtain ⟨l, h1, h2⟩ := bF6.1 h
  cases h2
  have hf' : cap = #[] := by simpa using hf
  subst hf'
  have := ai9 (ρ := ρ) (g := g) (fun x hx v hv => hg x (by simp [Op.operands]; simpa using hx) v hv) h1
  simp only [Instr.makeFunc, AV.val, ← this]
  have : Array.map g first = (List.map g first.toList).toArray := by apply Array.ext'; simp
  simp [this]
 case build t parts =>
  split at h <;> first | cases h | skip
  rename_i z fs h1 h2
  split at h <;> first | cases h | skip
  rename_i places hpl
  obtain ⟨l, h3, h4⟩ := bF6.1 h
  cases h4
  obtain ⟨it, hit, hz⟩ : ∃ it, P.info? t = some it ∧ it.zero = some z := by
   unfold L4 at h1
   exact Option.bind_eq_some_iff.1 h1
  have hb : P.built t (parts.map fun (i, x) => (i, g x)).toList = some (AV.vals ρ l).toArray := by
   unfold Program.built
   simp only [hit, h2, hz, hpl]
   have h5 := a68 M h2 (e := e) (g := g) (places := places.toArray) (fun i off ft n k1 k2 => by
    obtain ⟨fs', x, m1, m2, m3, m4⟩ := a18 k1
    rw [h2] at m1; cases m1
    obtain ⟨y, n1, n2⟩ := bF6.1 k2
    have := aT7 hpl (i := i) (x := x) (y := (off, n)) (by simpa using m2) (by simp [m4, n1, m3, n2])
    simpa using this) parts.toList _ l (fun p hp v hv => hg p.2 (by simp [Op.operands]; exact ⟨p.1, by simpa using hp⟩) v hv) h3
   rw [Z3] at h5
   rw [← h5]
   simp
  rw [Sem.run_bind, run_build w t _ _ hb]
  simp [AV.val]
 case call c =>
  obtain ⟨callee, args, argTypes⟩ := c
  cases callee <;> (try simp only [Z7] at h) <;> first | cases h | skip
  rename_i b
  cases b <;> (try simp only [Z7] at h) <;> first | cases h | skip
  split at h <;> first | cases h | skip
  rename_i x t hx ht
  have hx' : args = #[x] := by apply Array.ext'; simpa using hx
  have ht' : argTypes = #[t] := by apply Array.ext'; simpa using ht
  subst hx'; subst ht'
  split at h <;> first | cases h | skip
  ·rename_i id e' h1 h2
   obtain ⟨d, h3, h4⟩ := bF6.1 h
   cases h4
   obtain ⟨a, cap, hr, _⟩ := M.sliceAt h3
   have hxx := hg x (by simp [Op.operands, Call.operands]) _ h1
   simp only [AV.val] at hxx
   rw [hr] at hxx
   simp [resolve, invoke, builtin, hxx, Builtin.len_, run_underlying h2, AV.val, goInt]
  ·rename_i a n cap e' h1 h2
   have hxx := hg x (by simp [Op.operands, Call.operands]) _ h1
   simp only [AV.val] at hxx
   simp [resolve, invoke, builtin, hxx, Builtin.len_, run_underlying h2, AV.val, goInt]
  ·rename_i str h1 h2
   have hxx := hg x (by simp [Op.operands, Call.operands]) _ h1
   simp only [AV.val] at hxx
   simp [resolve, invoke, builtin, hxx, Builtin.len_, run_underlying h2, AV.val, goInt]
  ·rename_i id e' h1 h2
   obtain ⟨d, h3, h4⟩ := bF6.1 h
   cases h4
   obtain ⟨a, cap, hr⟩ := aA9 (M.treeAt h3).1
   have hxx := hg x (by simp [Op.operands, Call.operands]) _ h1
   simp only [AV.val] at hxx
   rw [hr] at hxx
   simp [resolve, invoke, builtin, hxx, Builtin.len_, run_underlying h2, AV.val, goInt]
end
theorem au1 (ks : List b5) (k : Nat) : n7 ks = n7 (ks.take k) + n7 (ks.drop k) := by
 have := L5 (ks.take k) (ks.drop k)
 rwa [List.take_append_drop] at this
theorem H8 {ks : List b5} {k : Nat} (h : k < ks.length) : n7 (ks.take (k + 1)) = n7 (ks.take k) + (1 + t8 ks[k]) := by
 rw [p7 _ _ h, L5]
 simp [n7]
theorem a87 (ks : List b6) (k : Nat) : l7 ks = l7 (ks.take k) + l7 (ks.drop k) := by
 have := A8 (ks.take k) (ks.drop k)
 rwa [List.take_append_drop] at this
theorem am6 {ks : List b6} {k : Nat} (h : k < ks.length) : l7 (ks.take (k + 1)) = l7 (ks.take k) + (1 + K6 ks[k]) := by
 rw [p7 _ _ h, A8]
 simp [l7]
def SzE (e : b5) : Prop := ∀ (φ : Nat → Prop) (v : Value) (m : Int) (w : World), I9 w φ v e → 0 ≤ m → m ≤ 1048576 →
 Calls Tryz.prog 200 #[v, .int .i64 m] w fun e' w' => e' = .returned (.int .i64 (J1 m (t8 e))) ∧ Below w.heap.size w w'
theorem aZ1 (ks : List b5) (ih : ∀ e ∈ ks, SzE e) (φ : Nat → Prop) (v : Value) (m : Int) (w : World) (h : p8 w φ v ks) (hm : 0 ≤ m) (hm2 : m ≤ 1048576) :
    Calls Tryz.prog 240 #[v, .int .i64 m] w fun e w' => e = .returned (.int .i64 (J1 m (n7 ks))) ∧ Below w.heap.size w w' := by
  obtain ⟨a, cap, rfl, -, hn, -, hc⟩ := h.open
  have hlen := T3 ks
  by_cases hlt : m < (ks.length : Int)
  · have hneg := show Hid (J1 m (n7 ks) = -1) from w7 (by omega)
    clear hc h hlen
    go_enter Tryz.func240, Tryz.ntmps240
    go_wp2
    go_ret
    exact ⟨w6 hneg.out.symm, Below.refl _ _⟩
  · have HC := show Hid _ from hc
    have HL := show Hid _ from hlen
    clear hc h hlen
    go_enter Tryz.func240, Tryz.ntmps240
    go_wp2
    go_loopw [1, 5] (fun l i wr => ∃ (k : Nat) (y : Int), k ≤ ks.length ∧ i = .int .i64 k ∧ l = .int .i64 y ∧ y = m - ks.length + k - n7 (ks.take k) ∧ 0 ≤ y ∧ Below w.heap.size w wr) (fun _ i _ => ks.length - (intOf i).toNat)
    case atStart => exact ⟨0, m - ks.length, bH1 _, rfl, rfl, by simp [n7], by omega, Below.refl _ _⟩
    case round =>
      obtain ⟨k, y, hk, rfl, rfl, hye, hy, hb⟩ := hrel
      have HY := show Hid _ from hye
      have HB := show Hid _ from hb
      have hy2 : y ≤ 1048576 := by have := H8 (ks := ks) (k := k); have : k ≤ n7 (ks.take k) := by have := T3 (ks.take k); rw [List.length_take] at this; omega
                                   omega
      clear hye hb
      by_cases hlk : k < ks.length
      · obtain ⟨b, off, kv, rfl, hbk, hf, c0, c1, c2, hkv⟩ := HC.out k hlk
        rw [← (T9 HB.out).1 _ _ hbk] at c0 c1 c2
        have HE := show Hid (I9 wr φ (.agg #[.int .i64 ks[k].kind, .int .i64 ks[k].value, kv]) ks[k]) from ⟨kv, rfl, p8.nice _ _ _ _ _ _ (J0.below HB.out) hkv⟩
        clear hkv
        go_wp2_with fail
        refine (ih _ (bG5 hlk) φ _ y _ HE.out hy hy2).mono ?_
        rintro e w1 ⟨rfl, b1⟩
        have B1 := show Hid _ from HB.out.trans (b1.mono HB.out.size)
        by_cases hs : y < (t8 ks[k] : Int)
        · rw [w7 hs]
          have hneg := show Hid (J1 m (n7 ks) = -1) from by
            have h1 := au1 ks (k + 1)
            have h2 := H8 hlk
            have h3 := T3 (ks.drop (k + 1))
            rw [List.length_drop] at h3
            have h4 := HY.out
            exact w7 (by omega)
          clear hs
          go_wp2_with fail
          go_ret
          exact ⟨w6 hneg.out.symm, B1.out⟩
        · rw [E0 hs]
          have hnn : ¬ (y - (t8 ks[k] : Int) < 0) := by omega
          have hlo : y - (t8 ks[k] : Int) ≤ 1048576 := by omega
          have HS := show Hid _ from hs
          clear hs
          go_wp2_with fail
          exact ⟨⟨k + 1, _, by omega, by go_num, rfl, by rw [HY.out, H8 hlk]; omega, by omega, B1.out⟩, by simp [intOf]; omega⟩
      · have hkn : k = ks.length := by omega
        subst hkn
        go_wp2_with fail
        go_ret
        exact ⟨w6 (by have h4 := HY.out; rw [bF8 (bF7 _)] at h4; rw [E0 (by omega), h4]; omega), HB.out⟩
theorem aB3 (e : b5) : SzE e := by
 refine b5.ind (P := SzE) (fun k n ks ih => ?_) e
 intro φ v m w h hm hm2
 obtain ⟨kv, rfl, hk⟩ := h
 have bx : Below w.heap.size w (w.alloc (.cells #[.int .i64 k, .int .i64 n, kv] 149)) := by go_grown
 have HS := show Hid (t8 ⟨k, n, ks⟩ = n7 ks) from rfl
 have hk1 := p8.nice _ _ _ _ _ _ (J0.below bx) hk
 have HK := show Hid _ from hk1
 have HB := show Hid _ from bx
 clear hk hk1 bx
 go_enter Tryz.func200, Tryz.ntmps200
 go_wp2_with fail
 refine (aZ1 ks ih φ kv m _ HK.out hm hm2).mono ?_
 rintro e w1 ⟨rfl, b1⟩
 have B1 := show Hid _ from HB.out.trans (b1.mono HB.out.size)
 by_cases hs : m < (n7 ks : Int)
 ·rw [w7 hs]
  go_wp2_with fail
  go_ret
  exact ⟨w6 (by rw [HS.out]; exact (w7 (by omega)).symm), B1.out⟩
 ·rw [E0 hs]
  have hnn : ¬ (m - (n7 ks : Int) < 0) := by omega
  have hlo : m - (n7 ks : Int) ≤ 1048576 := by omega
  go_wp2_with fail
  go_ret
  exact ⟨w6 (by rw [HS.out]; exact (E0 (by omega)).symm), B1.out⟩
def SzS (e : b6) : Prop := ∀ (φ : Nat → Prop) (v : Value) (m : Int) (w : World), N5 w φ v e → 0 ≤ m → m ≤ 1048576 →
 Calls Tryz.prog 149 #[v, .int .i64 m] w fun e' w' => e' = .returned (.int .i64 (J1 m (K6 e))) ∧ Below w.heap.size w w'
theorem am5 (ks : List b6) (ih : ∀ e ∈ ks, SzS e) (φ : Nat → Prop) (v : Value) (m : Int) (w : World) (h : s0 w φ v ks) (hm : 0 ≤ m) (hm2 : m ≤ 1048576) :
    Calls Tryz.prog 76 #[v, .int .i64 m] w fun e w' => e = .returned (.int .i64 (J1 m (l7 ks))) ∧ Below w.heap.size w w' := by
  obtain ⟨a, cap, rfl, -, hn, -, hc⟩ := h.open
  have hlen := E2 ks
  by_cases hlt : m < (ks.length : Int)
  · have hneg := show Hid (J1 m (l7 ks) = -1) from w7 (by omega)
    clear hc h hlen
    go_enter Tryz.func76, Tryz.ntmps76
    go_wp2
    go_ret
    exact ⟨w6 hneg.out.symm, Below.refl _ _⟩
  · have HC := show Hid _ from hc
    have HL := show Hid _ from hlen
    clear hc h hlen
    go_enter Tryz.func76, Tryz.ntmps76
    go_wp2
    go_loopw [1, 5] (fun l i wr => ∃ (k : Nat) (y : Int), k ≤ ks.length ∧ i = .int .i64 k ∧ l = .int .i64 y ∧ y = m - ks.length + k - l7 (ks.take k) ∧ 0 ≤ y ∧ Below w.heap.size w wr) (fun _ i _ => ks.length - (intOf i).toNat)
    case atStart => exact ⟨0, m - ks.length, bH1 _, rfl, rfl, by simp [l7], by omega, Below.refl _ _⟩
    case round =>
      obtain ⟨k, y, hk, rfl, rfl, hye, hy, hb⟩ := hrel
      have HY := show Hid _ from hye
      have HB := show Hid _ from hb
      have hy2 : y ≤ 1048576 := by have := am6 (ks := ks) (k := k); have : k ≤ l7 (ks.take k) := by have := E2 (ks.take k); rw [List.length_take] at this; omega
                                   omega
      clear hye hb
      by_cases hlk : k < ks.length
      · obtain ⟨b, off, iv, vv, bv, ev, rfl, hbk, hf, ⟨c0, c1, c2, c3, c4, c5, c6, c7, c8, c9, c10⟩, g1, g2, g3, g4⟩ := HC.out k hlk
        rw [← (T9 HB.out).1 _ _ hbk] at c0 c1 c2 c3 c4 c5 c6 c7 c8 c9 c10
        have HE := show Hid (N5 wr φ (.agg #[.int .i64 ks[k].kind, .int .i64 ks[k].target, .int .i64 ks[k].index.kind, .int .i64 ks[k].index.value, iv, .int .i64 ks[k].value.kind, .int .i64 ks[k].value.value, vv, .int .i64 ks[k].count, bv, ev]) ks[k]) from N5.nice _ _ _ _ _ _ (J0.below HB.out) ⟨iv, vv, bv, ev, rfl, g1, g2, g3, g4⟩
        clear g1 g2 g3 g4
        go_wp2_with fail
        refine (ih _ (bG5 hlk) φ _ y _ HE.out hy hy2).mono ?_
        rintro e w1 ⟨rfl, b1⟩
        have B1 := show Hid _ from HB.out.trans (b1.mono HB.out.size)
        by_cases hs : y < (K6 ks[k] : Int)
        · rw [w7 hs]
          have hneg := show Hid (J1 m (l7 ks) = -1) from by
            have h1 := a87 ks (k + 1)
            have h2 := am6 hlk
            have h3 := E2 (ks.drop (k + 1))
            rw [List.length_drop] at h3
            have h4 := HY.out
            exact w7 (by omega)
          clear hs
          go_wp2_with fail
          go_ret
          exact ⟨w6 hneg.out.symm, B1.out⟩
        · rw [E0 hs]
          have hnn : ¬ (y - (K6 ks[k] : Int) < 0) := by omega
          have hlo : y - (K6 ks[k] : Int) ≤ 1048576 := by omega
          have HS := show Hid _ from hs
          clear hs
          go_wp2_with fail
          exact ⟨⟨k + 1, _, by omega, by go_num, rfl, by rw [HY.out, am6 hlk]; omega, by omega, B1.out⟩, by simp [intOf]; omega⟩
      · have hkn : k = ks.length := by omega
        subst hkn
        go_wp2_with fail
        go_ret
        exact ⟨w6 (by have h4 := HY.out; rw [bF8 (bF7 _)] at h4; rw [E0 (by omega), h4]; omega), HB.out⟩
theorem aZ0 (s : b6) : SzS s := by
 refine b6.ind (P := SzS) (fun k t i v c b e ihb ihe => ?_) s
 intro φ u m w h hm hm2
 obtain ⟨iv, vv, bv, ev, rfl, g1, g2, g3, g4⟩ := h
 simp only [b6.index, b6.value, b6.body, b6.els, b6.kind, b6.target, b6.count] at g1 g2 g3 g4 ⊢
 have HS := show Hid (K6 ⟨k, t, i, v, c, b, e⟩ = t8 i + t8 v + l7 b + l7 e) from rfl
 obtain ⟨W, hW, M⟩ : ∃ W, W = w.alloc (.cells #[.int .i64 k, .int .i64 t, .int .i64 i.kind, .int .i64 i.value, iv, .int .i64 v.kind, .int .i64 v.value, vv, .int .i64 c, bv, ev] 151) ∧ A1 (fun _ => True) (fun _ => True) w W [.box w.heap.size [.int .i64 k, .int .i64 t, .int .i64 i.kind, .int .i64 i.value, iv, .int .i64 v.kind, .int .i64 v.value, vv, .int .i64 c, bv, ev]] :=
  ⟨_, rfl, (A1.start fun _ _ => trivial).box _ _⟩
 have HG := show Hid (∀ W', Below w.heap.size w W' → I9 W' φ (.agg #[.int .i64 i.kind, .int .i64 i.value, iv]) i ∧ I9 W' φ (.agg #[.int .i64 v.kind, .int .i64 v.value, vv]) v ∧ s0 W' φ bv b ∧ s0 W' φ ev e) from fun W' k =>
  ⟨⟨iv, rfl, p8.nice _ _ _ _ _ _ (J0.below k) g1⟩, ⟨vv, rfl, p8.nice _ _ _ _ _ _ (J0.below k) g2⟩, s0.nice _ _ _ _ _ _ (J0.below k) g3, s0.nice _ _ _ _ _ _ (J0.below k) g4⟩
 clear g1 g2 g3 g4
 have c2 := M.c 0 2 rfl rfl
 have c3 := M.c 0 3 rfl rfl
 have c4 := M.c 0 4 rfl rfl
 rw [hW] at c2 c3 c4
 go_enter Tryz.func149, Tryz.ntmps149
 go_wp2_with fail
 rw [← hW]
 clear hW c2 c3 c4
 refine (aB3 i φ _ m _ (HG.out _ (M.below fun _ _ => trivial)).1 hm hm2).mono ?_
 rintro x w1 ⟨rfl, b1⟩
 replace M := M.call b1
 clear b1
 by_cases h1 : m < (t8 i : Int)
 ·rw [w7 h1]
  have HB := show Hid _ from M.below fun _ _ => trivial
  have HN := show Hid (J1 m (t8 i + t8 v + l7 b + l7 e) = -1) from w7 (by omega)
  clear h1 M
  go_wp2_with fail
  go_ret
  exact ⟨w6 (by rw [HS.out]; exact HN.out.symm), HB.out⟩
 have hx1 : 0 ≤ m - (t8 i : Int) := by omega
 have hy1 : m - (t8 i : Int) ≤ 1048576 := by omega
 rw [E0 h1]
 have c5 := M.c 0 5 rfl rfl
 have c6 := M.c 0 6 rfl rfl
 have c7 := M.c 0 7 rfl rfl
 clear h1
 have HM := show Hid _ from M
 clear M
 go_wp2_with fail
 have M := HM.out
 clear HM c5 c6 c7
 refine (aB3 v φ _ _ _ (HG.out _ (M.below fun _ _ => trivial)).2.1 hx1 hy1).mono ?_
 rintro x w2 ⟨rfl, b1⟩
 replace M := M.call b1
 clear b1
 by_cases h2 : m - (t8 i : Int) < (t8 v : Int)
 ·rw [w7 h2]
  have HB := show Hid _ from M.below fun _ _ => trivial
  have HN := show Hid (J1 m (t8 i + t8 v + l7 b + l7 e) = -1) from w7 (by omega)
  clear h2 M
  go_wp2_with fail
  go_ret
  exact ⟨w6 (by rw [HS.out]; exact HN.out.symm), HB.out⟩
 have hx2 : 0 ≤ m - (t8 i : Int) - (t8 v : Int) := by omega
 have hy2 : m - (t8 i : Int) - (t8 v : Int) ≤ 1048576 := by omega
 rw [E0 h2]
 have c9 := M.c 0 9 rfl rfl
 clear h2
 have HM := show Hid _ from M
 clear M
 go_wp2_with fail
 have M := HM.out
 clear HM c9
 refine (am5 b ihb φ _ _ _ (HG.out _ (M.below fun _ _ => trivial)).2.2.1 hx2 hy2).mono ?_
 rintro x w3 ⟨rfl, b1⟩
 replace M := M.call b1
 clear b1
 by_cases h3 : m - (t8 i : Int) - (t8 v : Int) < (l7 b : Int)
 ·rw [w7 h3]
  have HB := show Hid _ from M.below fun _ _ => trivial
  have HN := show Hid (J1 m (t8 i + t8 v + l7 b + l7 e) = -1) from w7 (by omega)
  clear h3 M
  go_wp2_with fail
  go_ret
  exact ⟨w6 (by rw [HS.out]; exact HN.out.symm), HB.out⟩
 have hx3 : 0 ≤ m - (t8 i : Int) - (t8 v : Int) - (l7 b : Int) := by omega
 have hy3 : m - (t8 i : Int) - (t8 v : Int) - (l7 b : Int) ≤ 1048576 := by omega
 rw [E0 h3]
 have c10 := M.c 0 10 rfl rfl
 clear h3
 have HM := show Hid _ from M
 clear M
 go_wp2_with fail
 have M := HM.out
 clear HM c10
 refine (am5 e ihe φ _ _ _ (HG.out _ (M.below fun _ _ => trivial)).2.2.2 hx3 hy3).mono ?_
 rintro x w4 ⟨rfl, b1⟩
 replace M := M.call b1
 clear b1
 have HB := show Hid _ from M.below fun _ _ => trivial
 clear M
 by_cases h4 : m - (t8 i : Int) - (t8 v : Int) - (l7 b : Int) < (l7 e : Int)
 ·rw [w7 h4]
  have HN := show Hid (J1 m (t8 i + t8 v + l7 b + l7 e) = -1) from w7 (by omega)
  clear h4
  go_wp2_with fail
  go_ret
  exact ⟨w6 (by rw [HS.out]; exact HN.out.symm), HB.out⟩
 ·rw [E0 h4]
  have HN := show Hid (J1 m (t8 i + t8 v + l7 b + l7 e) = m - (t8 i : Int) - (t8 v : Int) - (l7 b : Int) - (l7 e : Int)) from by unfold Hid; rw [E0 (by omega)]; omega
  have hx4 : ¬ (m - (t8 i : Int) - (t8 v : Int) - (l7 b : Int) - (l7 e : Int) < 0) := by omega
  have hy4 : m - (t8 i : Int) - (t8 v : Int) - (l7 b : Int) - (l7 e : Int) ≤ 1048576 := by omega
  clear h4
  go_wp2_with fail
  go_ret
  exact ⟨w6 (by rw [HS.out]; exact HN.out.symm), HB.out⟩
theorem aG1 (φ : Nat → Prop) (u : Value) (p : b9) (m : Int) (w : World) (h : af7 w φ u p) (hm : 0 ≤ m) (hm2 : m ≤ 1048576) :
  Calls Tryz.prog 26 #[u, .int .i64 m] w fun e w' => e = .returned (.int .i64 (J1 m p.size)) ∧ Below w.heap.size w w' := by
 obtain ⟨v1, v2, v3, rfl, h1, h2, h3⟩ := h
 have HS : Hid (p.size = p.vars.length + p.arrays.length + l7 p.body) := rfl
 obtain ⟨W, hW, M⟩ : ∃ W, W = w.alloc (.cells #[v1, v2, v3] 43) ∧ A1 (fun _ => True) (fun _ => True) w W [.box w.heap.size [v1, v2, v3]] :=
  ⟨_, rfl, (A1.start fun _ _ => trivial).box _ _⟩
 have HG := show Hid (∀ W', Below w.heap.size w W' → Q8 W' v1 p.vars.length 1 (ints p.vars) ∧ Q8 W' v2 p.arrays.length 1 (ints p.arrays) ∧ s0 W' φ v3 p.body) from fun W' k =>
  ⟨h1.row.below k, h2.row.below k, s0.nice _ _ _ _ _ _ (J0.below k) h3⟩
 clear h1 h2 h3
 have c0 := M.c 0 0 rfl rfl
 rw [hW] at c0
 go_enter Tryz.func26, Tryz.ntmps26
 go_wp2_with fail
 rw [← hW]
 clear hW c0
 refine (aB2 v1 p.vars.length _ m _ (HG.out _ (M.below fun _ _ => trivial)).1 hm hm2).mono ?_
 rintro x w1 ⟨rfl, rfl⟩
 by_cases q1 : m < (p.vars.length : Int)
 ·rw [w7 q1]
  have HB := show Hid _ from M.below fun _ _ => trivial
  have HN := show Hid (J1 m (p.vars.length + p.arrays.length + l7 p.body) = -1) from w7 (by omega)
  clear q1 M
  go_wp2_with fail
  go_ret
  exact ⟨w6 (by rw [HS.out]; exact HN.out.symm), HB.out⟩
 have hx1 : 0 ≤ m - (p.vars.length : Int) := by omega
 have hy1 : m - (p.vars.length : Int) ≤ 1048576 := by omega
 rw [E0 q1]
 have c1 := M.c 0 1 rfl rfl
 clear q1
 have HM := show Hid _ from M
 clear M
 go_wp2_with fail
 have M := HM.out
 clear HM c1
 refine (aB2 v2 p.arrays.length _ _ _ (HG.out _ (M.below fun _ _ => trivial)).2.1 hx1 hy1).mono ?_
 rintro x w1 ⟨rfl, rfl⟩
 by_cases q2 : m - (p.vars.length : Int) < (p.arrays.length : Int)
 ·rw [w7 q2]
  have HB := show Hid _ from M.below fun _ _ => trivial
  have HN := show Hid (J1 m (p.vars.length + p.arrays.length + l7 p.body) = -1) from w7 (by omega)
  clear q2 M
  go_wp2_with fail
  go_ret
  exact ⟨w6 (by rw [HS.out]; exact HN.out.symm), HB.out⟩
 have hx2 : 0 ≤ m - (p.vars.length : Int) - (p.arrays.length : Int) := by omega
 have hy2 : m - (p.vars.length : Int) - (p.arrays.length : Int) ≤ 1048576 := by omega
 rw [E0 q2]
 have c2 := M.c 0 2 rfl rfl
 clear q2
 have HM := show Hid _ from M
 clear M
 go_wp2_with fail
 have M := HM.out
 clear HM c2
 refine (am5 p.body (fun s _ => aZ0 s) φ _ _ _ (HG.out _ (M.below fun _ _ => trivial)).2.2 hx2 hy2).mono ?_
 rintro x w3 ⟨rfl, b1⟩
 replace M := M.call b1
 clear b1
 have HB := show Hid _ from M.below fun _ _ => trivial
 clear M
 by_cases q3 : m - (p.vars.length : Int) - (p.arrays.length : Int) < (l7 p.body : Int)
 ·rw [w7 q3]
  have HN := show Hid (J1 m (p.vars.length + p.arrays.length + l7 p.body) = -1) from w7 (by omega)
  clear q3
  go_wp2_with fail
  go_ret
  exact ⟨w6 (by rw [HS.out]; exact HN.out.symm), HB.out⟩
 ·rw [E0 q3]
  have HN := show Hid (J1 m (p.vars.length + p.arrays.length + l7 p.body) = m - (p.vars.length : Int) - (p.arrays.length : Int) - (l7 p.body : Int)) from by unfold Hid; rw [E0 (by omega)]; omega
  have hx4 : ¬ (m - (p.vars.length : Int) - (p.arrays.length : Int) - (l7 p.body : Int) < 0) := by omega
  have hy4 : m - (p.vars.length : Int) - (p.arrays.length : Int) - (l7 p.body : Int) ≤ 1048576 := by omega
  clear q3
  go_wp2_with fail
  go_ret
  exact ⟨w6 (by rw [HS.out]; exact HN.out.symm), HB.out⟩
theorem bB2 : (Tryz.prog.info? 104).map (fun i => (i.zero, i.size, i.bytes)) = some (some (.agg #[.int .i64 0, .int .i64 0, .slice none 0 0]), 3, 40) := by kernel_rfl
theorem V9 {w : World} {g p : Nat} {us : List Value} {b : Nat} (hb : b < w.heap.size) (hne : b ≠ g) : (World.setFrom w g p us).heap[b]? = w.heap[b]? :=
 (Out.setFrom us (Out.refl g (g + 1) w) (bF7 _) (Nat.lt_succ_self _)).block b hb (by omega)
def ToE (e : b5) : Prop := ∀ (φ : Nat → Prop) (v : Value) (w : World), I9 w φ v e → t8 e ≤ 1048576 →
 Calls Tryz.prog 206 #[v] w fun x w' => ∃ a c S, x = .returned (.agg #[.int .i64 e.kind, .int .i64 e.value, .slice a e.kids.length c]) ∧ A2 w' (.slice a e.kids.length c) e.kids S ∧ (∀ b, S b → w.heap.size ≤ b ∧ b < w'.heap.size) ∧ Below w.heap.size w w'
theorem aY9 (ks : List b5) (ih : ∀ e ∈ ks, ToE e) (φ : Nat → Prop) (v : Value) (w : World) (h : p8 w φ v ks) (hb : n7 ks ≤ 1048576) :
  Calls Tryz.prog 242 #[v] w fun x w' => ∃ a c S, x = .returned (.slice a ks.length c) ∧ A2 w' (.slice a ks.length c) ks S ∧ (∀ b, S b → w.heap.size ≤ b ∧ b < w'.heap.size) ∧ Below w.heap.size w w' := by
 obtain ⟨a1, c1, rfl, -, hm1, -, hc1⟩ := h.open
 have hlen := T3 ks
 have HC := show Hid _ from hc1
 clear h hc1
 have hmk := aq4 (P := Tryz.prog) (t := 102) Tryz.underlying102 bB2 rfl (by omega) ks.length (by omega) hm1
 have hown := ap8 w (Value.agg #[.int .i64 0, .int .i64 0, .slice none 0 0]).cells.toList ks.length 3 104 rfl hm1
 have HB := show Hid _ from hb
 have HLN := show Hid _ from hlen
 clear hb hlen
 go_enter Tryz.func242, Tryz.ntmps242
 go_wp2_with fail
 clear hmk
 go_loopw [4] (fun i wr => ∃ (k : Nat) (ys : List Value), k ≤ ks.length ∧ i = .int .i64 k ∧ Q3 wr w.heap.size (w.heap.size + 1) 104 3 (.slice (some ⟨w.heap.size, 0, none⟩) ks.length ks.length) ks.length ys ∧ s9 wr (ks.take k) (fun b => w.heap.size < b ∧ b < wr.heap.size) (ys.take (k * 3)) ∧ Below w.heap.size w wr) (fun i _ => ks.length - (intOf i).toNat)
 case atStart => exact ⟨0, _, bH1 _, rfl, hown, by simp [s9], (Below.refl _ _).alloc (bF7 _) _⟩
 case round =>
  obtain ⟨k, ys, hk, rfl, ho, ht, hbw⟩ := hrel
  have HT := show Hid _ from ht
  clear ht hown
  by_cases hlt : k < ks.length
  ·obtain ⟨b1, o1, kv, rfl, hb1, hf, x0, x1, x2, hkv⟩ := HC.out k hlt
   rw [← (T9 hbw).1 _ _ hb1] at x0 x1 x2
   have HY := show Hid (ys.length = ks.length * 3) from ho.1.1
   have HE := show Hid (I9 wr φ (.agg #[.int .i64 ks[k].kind, .int .i64 ks[k].value, kv]) ks[k]) from ⟨kv, rfl, p8.nice _ _ _ _ _ _ (J0.below hbw) hkv⟩
   clear hkv
   go_wp2_with fail
   refine (ih _ (bG5 hlt) φ _ _ HE.out (by have h1 := aL6 (bG5 hlt); have h2 := HB.out; omega)).mono ?_
   rintro e w1 ⟨ra, rc, S1, rfl, hO, hS, hbc⟩
   have ho1 := ho.keep hbc (by have := ho.lt _ rfl; omega)
   have hin : ∀ j, j < 3 → k * 3 + j < ys.length := fun j hj => by rw [HY.out]; omega
   obtain ⟨g, cap, hv, hg1, hg2, hg3, f0, u0, y0⟩ := ho1.at (hin 0 (by omega))
   cases hv
   obtain ⟨g, cap, hv, -, -, -, f1, u1, y1⟩ := ho1.at (hin 1 (by omega))
   cases hv
   obtain ⟨g, cap, hv, -, -, -, f2, u2, y2⟩ := ho1.at (hin 2 (by omega))
   cases hv
   simp only [Nat.add_zero] at f0 y0
   have hg4 : w.heap.size < w1.heap.size := hg3
   have HO := show Hid _ from hO
   have HS := show Hid _ from hS
   have hsz0 := hbw.size
   have hszr := hbc.size
   have hgr : w.heap.size < wr.heap.size := (ho.lt _ rfl).2.2
   clear hin hO hS
   go_wp2_with fail
   have hb3 := al1 (p := k * 3) [.int .i64 ks[k].kind, .int .i64 ks[k].value, (.slice ra ks[k].kids.length rc)] (hbw.trans (hbc.mono hbw.size)) (bF7 w.heap.size)
   have hsz := (Out.setFrom (p := k * 3) [.int .i64 ks[k].kind, .int .i64 ks[k].value, (.slice ra ks[k].kids.length rc)] (Out.refl w.heap.size (w.heap.size + 1) w1) (bF7 _) (Nat.lt_succ_self _)).size
   refine ⟨⟨k + 1, _, by omega, by go_num, ho1.setFrom [.int .i64 ks[k].kind, .int .i64 ks[k].value, (.slice ra ks[k].kids.length rc)] (by simp; rw [HY.out]; omega), ?_, hb3⟩, by simp [intOf]; omega⟩
   rw [bH7, p7 _ _ hlt]
   rw [show (setFrom ys (k * 3) [.int .i64 ks[k].kind, .int .i64 ks[k].value, (.slice ra ks[k].kids.length rc)]).take (k * 3 + 3) = ys.take (k * 3) ++ [.int .i64 ks[k].kind, .int .i64 ks[k].value, (.slice ra ks[k].kids.length rc)] from V8 [_, _, _] _ _ (by simp; rw [HY.out]; omega)]
   refine s9.snoc (S := fun b => w.heap.size < b ∧ b < wr.heap.size) (T := S1) (s9.same _ _ _ HT.out fun b hbb hlt' => ?_) ((F0.iff _ _ _).2 ⟨.slice ra ks[k].kids.length rc, rfl, A2.same HO.out fun b hbb hlt' => ?_⟩) (fun b hbb => ⟨⟨hbb.1, ?_⟩, fun h1 => ?_⟩) fun b hbb => ⟨?_, ?_⟩
   ·obtain ⟨p1, p2⟩ : w.heap.size < b ∧ b < wr.heap.size := hbb
    exact (V9 (p := k * 3) (us := [.int .i64 ks[k].kind, .int .i64 ks[k].value, (.slice ra ks[k].kids.length rc)]) (by omega) (by omega)).trans (hbc.block b p2)
   ·obtain ⟨p1, p2⟩ : wr.heap.size ≤ b ∧ b < w1.heap.size := HS.out b hbb
    exact V9 (p := k * 3) (us := [.int .i64 ks[k].kind, .int .i64 ks[k].value, (.slice ra ks[k].kids.length rc)]) hlt' (by omega)
   ·exact bH5 (bH5 hbb.2 hszr) hsz
   ·have h2 : wr.heap.size ≤ b ∧ b < w1.heap.size := HS.out b h1
    have h3 : b < wr.heap.size := hbb.2
    omega
   ·have h2 : wr.heap.size ≤ b ∧ b < w1.heap.size := HS.out b hbb
    show w.heap.size < b
    omega
   ·exact bH5 (HS.out b hbb).2 hsz
  ·have hkn : k = ks.length := by omega
   subst hkn
   go_wp2_with fail
   go_ret
   have hl : ys.take (ks.length * 3) = ys := bF8 (by rw [ho.1.1]; exact bF7 _)
   have ht := HT.out
   rw [hl, bF8 (bF7 _)] at ht
   exact ⟨_, _, fun b => w.heap.size ≤ b ∧ b < wr.heap.size, rfl, ⟨ys, fun b => w.heap.size < b ∧ b < wr.heap.size, I7 ho.1 (bH1 _), fun g hg => by cases hg; exact ⟨⟨bF7 _, (ho.lt _ rfl).2.2⟩, fun h => absurd h.1 (Nat.lt_irrefl _)⟩, fun b hb => ⟨by omega, hb.2⟩, ht⟩, fun b hb => hb, hbw⟩
theorem aB1 (e : b5) : ToE e := by
 refine b5.ind (P := ToE) (fun k n ks ih => ?_) e
 intro φ v w h hb
 obtain ⟨kv, rfl, hk⟩ := h
 simp only [b5.kind, b5.value, b5.kids] at hk ⊢
 obtain ⟨W, hW, M⟩ : ∃ W, W = (((w.alloc (.cells #[.int .i64 k, .int .i64 n, kv] 149)).alloc (.cells #[.int .i64 0, .int .i64 0, .slice none 0 0] 104)).alloc (.cells #[.int .i64 k, .int .i64 n, .slice none 0 0] 104)) ∧ A1 (fun _ => True) (fun _ => True) w W [.box w.heap.size [.int .i64 k, .int .i64 n, kv], .box (w.heap.size + 1) [.int .i64 0, .int .i64 0, .slice none 0 0], .box (w.heap.size + 1 + 1) [.int .i64 k, .int .i64 n, .slice none 0 0]] :=
  ⟨_, rfl, (((A1.start fun _ _ => trivial).box _ _).box' _ _ (by simp)).box' _ _ (by simp)⟩
 have HK := show Hid _ from p8.nice _ _ _ _ _ _ (J0.below (M.below fun _ _ => trivial)) hk
 have sW : W.heap.size = w.heap.size + 1 + 1 + 1 := by rw [hW]; simp
 have HM := show Hid _ from M
 have HS := show Hid _ from sW
 clear hk M sW
 go_enter Tryz.func206, Tryz.ntmps206
 go_wp2_with fail
 rw [← hW]
 clear hW
 refine (aY9 ks ih φ kv _ HK.out hb).mono ?_
 rintro x w1 ⟨ra, rc, S1, rfl, hO, hS, b1⟩
 have M := HM.out.callO b1 (S := S1) (R := fun w => A2 w (.slice ra ks.length rc) ks S1) (fun w w' h hs => A2.same h hs) hO hS
 clear HM b1 hO
 have c0 := M.c 2 0 rfl rfl
 have c1 := M.c 2 1 rfl rfl
 have c2 := M.c 2 2 rfl rfl
 have d0 := M.c 1 0 rfl rfl
 have d1 := M.c 1 1 rfl rfl
 have d2 := M.c 1 2 rfl rfl
 have f1 := M.f 1 rfl
 have f2 := M.f 2 rfl
 have M2 := (((M.set 2 rfl 2 (.slice ra ks.length rc)).set 1 rfl 0 (.int .i64 k)).set 1 rfl 1 (.int .i64 n)).set 1 rfl 2 (.slice ra ks.length rc)
 have HM2 := show Hid _ from M2
 have HSS := show Hid _ from hS
 clear M M2 hS
 go_wp2_with fail
 have M2 := HM2.out
 have r0 : World.cell? _ ⟨w.heap.size + 1, 0, none⟩ = some (.int .i64 k) := M2.c 1 0 rfl rfl
 have r1 : World.cell? _ ⟨w.heap.size + 1, 1, none⟩ = some (.int .i64 n) := M2.c 1 1 rfl rfl
 have r2 : World.cell? _ ⟨w.heap.size + 1, 2, none⟩ = some (.slice ra ks.length rc) := M2.c 1 2 rfl rfl
 refine bodyPost_ret (v := .agg #[.int .i64 k, .int .i64 n, .slice ra ks.length rc]) (by simp [results, Tryz.results206, go_sem, r0, r1, r2]) rfl ⟨ra, rc, S1, rfl, M2.o 3 rfl, fun b hbb => ⟨?_, M2.lt (bG4 (i := 3) rfl) hbb⟩, M2.below fun _ _ => trivial⟩
 have := HSS.out b hbb
 have := HS.out
 omega
theorem bB1 : (Tryz.prog.info? 106).map (fun i => (i.zero, i.size, i.bytes)) = some (some (.agg #[.int .i64 0, .int .i64 0, .int .i64 0, .int .i64 0, .slice none 0 0, .int .i64 0, .int .i64 0, .slice none 0 0, .int .i64 0, .slice none 0 0, .slice none 0 0]), 11, 152) := by kernel_rfl
def a44 (s : b6) (ai : Option Addr) (ci : Nat) (av : Option Addr) (cv : Nat) (ab : Option Addr) (cb : Nat) (ae : Option Addr) (ce : Nat) : List Value :=
 [.int .i64 s.kind, .int .i64 s.target, .int .i64 s.index.kind, .int .i64 s.index.value, .slice ai s.index.kids.length ci, .int .i64 s.value.kind, .int .i64 s.value.value, .slice av s.value.kids.length cv, .int .i64 s.count, .slice ab s.body.length cb, .slice ae s.els.length ce]
def ToS (s : b6) : Prop := ∀ (φ : Nat → Prop) (v : Value) (w : World), N5 w φ v s → K6 s ≤ 1048576 →
 Calls Tryz.prog 162 #[v] w fun x w' => ∃ ai ci av cv ab cb ae ce S, x = .returned (.agg #[.int .i64 s.kind, .int .i64 s.target, .int .i64 s.index.kind, .int .i64 s.index.value, .slice ai s.index.kids.length ci, .int .i64 s.value.kind, .int .i64 s.value.value, .slice av s.value.kids.length cv, .int .i64 s.count, .slice ab s.body.length cb, .slice ae s.els.length ce]) ∧
  E8 w' s S (a44 s ai ci av cv ab cb ae ce) ∧ (∀ b, S b → w.heap.size ≤ b ∧ b < w'.heap.size) ∧ Below w.heap.size w w'
theorem am4 (ks : List b6) (ih : ∀ e ∈ ks, ToS e) (φ : Nat → Prop) (v : Value) (w : World) (h : s0 w φ v ks) (hb : l7 ks ≤ 1048576) :
  Calls Tryz.prog 81 #[v] w fun x w' => ∃ a c S, x = .returned (.slice a ks.length c) ∧ v9 w' (.slice a ks.length c) ks S ∧ (∀ b, S b → w.heap.size ≤ b ∧ b < w'.heap.size) ∧ Below w.heap.size w w' := by
 obtain ⟨a1, c1, rfl, -, hm1, -, hc1⟩ := h.open
 have hlen := E2 ks
 have HC := show Hid _ from hc1
 clear h hc1
 have hmk := aq4 (P := Tryz.prog) (t := 24) Tryz.underlying24 bB1 rfl (by omega) ks.length (by omega) hm1
 have hown := ap8 w (Value.agg #[.int .i64 0, .int .i64 0, .int .i64 0, .int .i64 0, .slice none 0 0, .int .i64 0, .int .i64 0, .slice none 0 0, .int .i64 0, .slice none 0 0, .slice none 0 0]).cells.toList ks.length 11 106 rfl hm1
 have HB := show Hid _ from hb
 have HLN := show Hid _ from hlen
 clear hb hlen
 go_enter Tryz.func81, Tryz.ntmps81
 go_wp2_with fail
 clear hmk
 go_loopw [4] (fun i wr => ∃ (k : Nat) (ys : List Value), k ≤ ks.length ∧ i = .int .i64 k ∧ Q3 wr w.heap.size (w.heap.size + 1) 106 11 (.slice (some ⟨w.heap.size, 0, none⟩) ks.length ks.length) ks.length ys ∧ s8 wr (ks.take k) (fun b => w.heap.size < b ∧ b < wr.heap.size) (ys.take (k * 11)) ∧ Below w.heap.size w wr) (fun i _ => ks.length - (intOf i).toNat)
 case atStart => exact ⟨0, _, bH1 _, rfl, hown, by simp [s8], (Below.refl _ _).alloc (bF7 _) _⟩
 case round =>
  obtain ⟨k, ys, hk, rfl, ho, ht, hbw⟩ := hrel
  have HT := show Hid _ from ht
  clear ht hown
  by_cases hlt : k < ks.length
  ·obtain ⟨b1, o1, iv, vv, bv, ev, rfl, hb1, hf, ⟨x0, x1, x2, x3, x4, x5, x6, x7, x8, x9, x10⟩, k1, k2, k3, k4⟩ := HC.out k hlt
   rw [← (T9 hbw).1 _ _ hb1] at x0 x1 x2 x3 x4 x5 x6 x7 x8 x9 x10
   have HY := show Hid (ys.length = ks.length * 11) from ho.1.1
   have HE := show Hid (N5 wr φ (.agg #[.int .i64 ks[k].kind, .int .i64 ks[k].target, .int .i64 ks[k].index.kind, .int .i64 ks[k].index.value, iv, .int .i64 ks[k].value.kind, .int .i64 ks[k].value.value, vv, .int .i64 ks[k].count, bv, ev]) ks[k]) from N5.nice _ _ _ _ _ _ (J0.below hbw) ⟨iv, vv, bv, ev, rfl, k1, k2, k3, k4⟩
   clear k1 k2 k3 k4
   go_wp2_with fail
   refine (ih _ (bG5 hlt) φ _ _ HE.out (by have h1 := J5 (bG5 hlt); have h2 := HB.out; omega)).mono ?_
   rintro e w1 ⟨ai, ci, av, cv, ab, cb, ae, ce, S1, rfl, hO, hS, hbc⟩
   have ho1 := ho.keep hbc (by have := ho.lt _ rfl; omega)
   have hin : ∀ j, j < 11 → k * 11 + j < ys.length := fun j hj => by rw [HY.out]; omega
   obtain ⟨g, cap, hv, hg1, hg2, hg3, f0, u0, y0⟩ := ho1.at (hin 0 (by omega))
   cases hv
   obtain ⟨g, cap, hv, -, -, -, f1, u1, y1⟩ := ho1.at (hin 1 (by omega))
   cases hv
   obtain ⟨g, cap, hv, -, -, -, f2, u2, y2⟩ := ho1.at (hin 2 (by omega))
   cases hv
   obtain ⟨g, cap, hv, -, -, -, f3, u3, y3⟩ := ho1.at (hin 3 (by omega))
   cases hv
   obtain ⟨g, cap, hv, -, -, -, f4, u4, y4⟩ := ho1.at (hin 4 (by omega))
   cases hv
   obtain ⟨g, cap, hv, -, -, -, f5, u5, y5⟩ := ho1.at (hin 5 (by omega))
   cases hv
   obtain ⟨g, cap, hv, -, -, -, f6, u6, y6⟩ := ho1.at (hin 6 (by omega))
   cases hv
   obtain ⟨g, cap, hv, -, -, -, f7, u7, y7⟩ := ho1.at (hin 7 (by omega))
   cases hv
   obtain ⟨g, cap, hv, -, -, -, f8, u8, y8⟩ := ho1.at (hin 8 (by omega))
   cases hv
   obtain ⟨g, cap, hv, -, -, -, f9, u9, y9⟩ := ho1.at (hin 9 (by omega))
   cases hv
   obtain ⟨g, cap, hv, -, -, -, f10, u10, y10⟩ := ho1.at (hin 10 (by omega))
   cases hv
   simp only [Nat.add_zero] at f0 y0
   have hg4 : w.heap.size < w1.heap.size := hg3
   have HO := show Hid _ from hO
   have HS := show Hid _ from hS
   have hsz0 := hbw.size
   have hszr := hbc.size
   have hgr : w.heap.size < wr.heap.size := (ho.lt _ rfl).2.2
   clear hin hO hS
   go_wp2_with fail
   have hb3 := al1 (p := k * 11) [.int .i64 ks[k].kind, .int .i64 ks[k].target, .int .i64 ks[k].index.kind, .int .i64 ks[k].index.value, .slice ai ks[k].index.kids.length ci, .int .i64 ks[k].value.kind, .int .i64 ks[k].value.value, .slice av ks[k].value.kids.length cv, .int .i64 ks[k].count, .slice ab ks[k].body.length cb, .slice ae ks[k].els.length ce] (hbw.trans (hbc.mono hbw.size)) (bF7 w.heap.size)
   have hsz := (Out.setFrom (p := k * 11) [.int .i64 ks[k].kind, .int .i64 ks[k].target, .int .i64 ks[k].index.kind, .int .i64 ks[k].index.value, .slice ai ks[k].index.kids.length ci, .int .i64 ks[k].value.kind, .int .i64 ks[k].value.value, .slice av ks[k].value.kids.length cv, .int .i64 ks[k].count, .slice ab ks[k].body.length cb, .slice ae ks[k].els.length ce] (Out.refl w.heap.size (w.heap.size + 1) w1) (bF7 _) (Nat.lt_succ_self _)).size
   refine ⟨⟨k + 1, _, by omega, by go_num, ho1.setFrom [.int .i64 ks[k].kind, .int .i64 ks[k].target, .int .i64 ks[k].index.kind, .int .i64 ks[k].index.value, .slice ai ks[k].index.kids.length ci, .int .i64 ks[k].value.kind, .int .i64 ks[k].value.value, .slice av ks[k].value.kids.length cv, .int .i64 ks[k].count, .slice ab ks[k].body.length cb, .slice ae ks[k].els.length ce] (by simp; rw [HY.out]; omega), ?_, hb3⟩, by simp [intOf]; omega⟩
   rw [bH7, p7 _ _ hlt]
   rw [show (setFrom ys (k * 11) [.int .i64 ks[k].kind, .int .i64 ks[k].target, .int .i64 ks[k].index.kind, .int .i64 ks[k].index.value, .slice ai ks[k].index.kids.length ci, .int .i64 ks[k].value.kind, .int .i64 ks[k].value.value, .slice av ks[k].value.kids.length cv, .int .i64 ks[k].count, .slice ab ks[k].body.length cb, .slice ae ks[k].els.length ce]).take (k * 11 + 11) = ys.take (k * 11) ++ [.int .i64 ks[k].kind, .int .i64 ks[k].target, .int .i64 ks[k].index.kind, .int .i64 ks[k].index.value, .slice ai ks[k].index.kids.length ci, .int .i64 ks[k].value.kind, .int .i64 ks[k].value.value, .slice av ks[k].value.kids.length cv, .int .i64 ks[k].count, .slice ab ks[k].body.length cb, .slice ae ks[k].els.length ce] from V8 [_, _, _, _, _, _, _, _, _, _, _] _ _ (by simp; rw [HY.out]; omega)]
   refine s8.snoc (S := fun b => w.heap.size < b ∧ b < wr.heap.size) (T := S1) (s8.same _ _ _ HT.out fun b hbb hlt' => ?_) (E8.same _ _ _ HO.out fun b hbb hlt' => ?_) (fun b hbb => ⟨⟨hbb.1, ?_⟩, fun h1 => ?_⟩) fun b hbb => ⟨?_, ?_⟩
   ·obtain ⟨p1, p2⟩ : w.heap.size < b ∧ b < wr.heap.size := hbb
    exact (V9 (p := k * 11) (us := [.int .i64 ks[k].kind, .int .i64 ks[k].target, .int .i64 ks[k].index.kind, .int .i64 ks[k].index.value, .slice ai ks[k].index.kids.length ci, .int .i64 ks[k].value.kind, .int .i64 ks[k].value.value, .slice av ks[k].value.kids.length cv, .int .i64 ks[k].count, .slice ab ks[k].body.length cb, .slice ae ks[k].els.length ce]) (by omega) (by omega)).trans (hbc.block b p2)
   ·obtain ⟨p1, p2⟩ : wr.heap.size ≤ b ∧ b < w1.heap.size := HS.out b hbb
    exact V9 (p := k * 11) (us := [.int .i64 ks[k].kind, .int .i64 ks[k].target, .int .i64 ks[k].index.kind, .int .i64 ks[k].index.value, .slice ai ks[k].index.kids.length ci, .int .i64 ks[k].value.kind, .int .i64 ks[k].value.value, .slice av ks[k].value.kids.length cv, .int .i64 ks[k].count, .slice ab ks[k].body.length cb, .slice ae ks[k].els.length ce]) hlt' (by omega)
   ·exact bH5 (bH5 hbb.2 hszr) hsz
   ·have h2 : wr.heap.size ≤ b ∧ b < w1.heap.size := HS.out b h1
    have h3 : b < wr.heap.size := hbb.2
    omega
   ·have h2 : wr.heap.size ≤ b ∧ b < w1.heap.size := HS.out b hbb
    show w.heap.size < b
    omega
   ·exact bH5 (HS.out b hbb).2 hsz
  ·have hkn : k = ks.length := by omega
   subst hkn
   go_wp2_with fail
   go_ret
   have hl : ys.take (ks.length * 11) = ys := bF8 (by rw [ho.1.1]; exact bF7 _)
   have ht := HT.out
   rw [hl, bF8 (bF7 _)] at ht
   exact ⟨_, _, fun b => w.heap.size ≤ b ∧ b < wr.heap.size, rfl, ⟨ys, fun b => w.heap.size < b ∧ b < wr.heap.size, I7 ho.1 (bH1 _), fun g hg => by cases hg; exact ⟨⟨bF7 _, (ho.lt _ rfl).2.2⟩, fun h => absurd h.1 (Nat.lt_irrefl _)⟩, fun b hb => ⟨by omega, hb.2⟩, ht⟩, fun b hb => hb, hbw⟩
theorem aY8 (s : b6) : ToS s := by
 refine b6.ind (P := ToS) (fun k t i v c b e ihb ihe => ?_) s
 intro φ u w h hb
 obtain ⟨iv, vv, bv, ev, rfl, g1, g2, g3, g4⟩ := h
 have hsz : t8 i + t8 v + l7 b + l7 e ≤ 1048576 := hb
 simp only [b6.index, b6.value, b6.body, b6.els, b6.kind, b6.target, b6.count, a44] at g1 g2 g3 g4 ⊢
 obtain ⟨W, hW, M⟩ : ∃ W, W = (((w.alloc (.cells #[.int .i64 k, .int .i64 t, .int .i64 i.kind, .int .i64 i.value, iv, .int .i64 v.kind, .int .i64 v.value, vv, .int .i64 c, bv, ev] 151)).alloc (.cells #[.int .i64 0, .int .i64 0, .int .i64 0, .int .i64 0, .slice none 0 0, .int .i64 0, .int .i64 0, .slice none 0 0, .int .i64 0, .slice none 0 0, .slice none 0 0] 106)).alloc (.cells #[.int .i64 k, .int .i64 t, .int .i64 0, .int .i64 0, .slice none 0 0, .int .i64 0, .int .i64 0, .slice none 0 0, .int .i64 0, .slice none 0 0, .slice none 0 0] 106)) ∧ A1 (fun _ => True) (fun _ => True) w W [.box w.heap.size [.int .i64 k, .int .i64 t, .int .i64 i.kind, .int .i64 i.value, iv, .int .i64 v.kind, .int .i64 v.value, vv, .int .i64 c, bv, ev], .box (w.heap.size + 1) [.int .i64 0, .int .i64 0, .int .i64 0, .int .i64 0, .slice none 0 0, .int .i64 0, .int .i64 0, .slice none 0 0, .int .i64 0, .slice none 0 0, .slice none 0 0], .box (w.heap.size + 1 + 1) [.int .i64 k, .int .i64 t, .int .i64 0, .int .i64 0, .slice none 0 0, .int .i64 0, .int .i64 0, .slice none 0 0, .int .i64 0, .slice none 0 0, .slice none 0 0]] :=
  ⟨_, rfl, (((A1.start fun _ _ => trivial).box _ _).box' _ _ (by simp)).box' _ _ (by simp)⟩
 have HG := show Hid (∀ W', Below w.heap.size w W' → I9 W' φ (.agg #[.int .i64 i.kind, .int .i64 i.value, iv]) i ∧ I9 W' φ (.agg #[.int .i64 v.kind, .int .i64 v.value, vv]) v ∧ s0 W' φ bv b ∧ s0 W' φ ev e) from fun W' k =>
  ⟨⟨iv, rfl, p8.nice _ _ _ _ _ _ (J0.below k) g1⟩, ⟨vv, rfl, p8.nice _ _ _ _ _ _ (J0.below k) g2⟩, s0.nice _ _ _ _ _ _ (J0.below k) g3, s0.nice _ _ _ _ _ _ (J0.below k) g4⟩
 clear g1 g2 g3 g4
 have c2 := M.c 0 2 rfl rfl
 have c3 := M.c 0 3 rfl rfl
 have c4 := M.c 0 4 rfl rfl
 rw [hW] at c2 c3 c4
 have HZ := show Hid _ from hsz
 have HM := show Hid _ from M
 clear M hsz hb
 go_enter Tryz.func162, Tryz.ntmps162
 go_wp2_with fail
 rw [← hW]
 have M := HM.out
 clear hW HM c2 c3 c4
 refine (aB1 i φ _ _ (HG.out _ (M.below fun _ _ => trivial)).1 (by have := HZ.out; omega)).mono ?_
 rintro x w1 ⟨ai, ci, S1, rfl, hO, hS, b1⟩
 replace M := M.callO b1 (S := S1) (R := fun w => A2 w (.slice ai i.kids.length ci) i.kids S1) (fun w w' h hs => A2.same h hs) hO (fun b hb => hS b hb)
 clear hO hS b1
 have q2_2 := M.c 2 2 rfl rfl
 have q2_3 := M.c 2 3 rfl rfl
 have q2_4 := M.c 2 4 rfl rfl
 have q0_5 := M.c 0 5 rfl rfl
 have q0_6 := M.c 0 6 rfl rfl
 have q0_7 := M.c 0 7 rfl rfl
 have fo := M.f 2 rfl
 have M2 := (((M.set 2 rfl 2 (.int .i64 i.kind)).set 2 rfl 3 (.int .i64 i.value)).set 2 rfl 4 (.slice ai i.kids.length ci))
 have HM2 := show Hid _ from M2
 clear M M2
 go_wp2_with fail
 have M := HM2.out
 clear HM2 fo q2_2 q2_3 q2_4 q0_5 q0_6 q0_7
 refine (aB1 v φ _ _ (HG.out _ (M.below fun _ _ => trivial)).2.1 (by have := HZ.out; omega)).mono ?_
 rintro x w1 ⟨av, cv, S2, rfl, hO, hS, b1⟩
 replace M := M.callO b1 (S := S2) (R := fun w => A2 w (.slice av v.kids.length cv) v.kids S2) (fun w w' h hs => A2.same h hs) hO (fun b hb => hS b hb)
 clear hO hS b1
 have q2_5 := M.c 2 5 rfl rfl
 have q2_6 := M.c 2 6 rfl rfl
 have q2_7 := M.c 2 7 rfl rfl
 have q0_8 := M.c 0 8 rfl rfl
 have q2_8 := M.c 2 8 rfl rfl
 have q0_9 := M.c 0 9 rfl rfl
 have fo := M.f 2 rfl
 have M2 := ((((M.set 2 rfl 5 (.int .i64 v.kind)).set 2 rfl 6 (.int .i64 v.value)).set 2 rfl 7 (.slice av v.kids.length cv)).set 2 rfl 8 (.int .i64 c))
 have HM2 := show Hid _ from M2
 clear M M2
 go_wp2_with fail
 have M := HM2.out
 clear HM2 fo q2_5 q2_6 q2_7 q0_8 q2_8 q0_9
 refine (am4 b ihb φ _ _ (HG.out _ (M.below fun _ _ => trivial)).2.2.1 (by have := HZ.out; omega)).mono ?_
 rintro x w1 ⟨ab, cb, S3, rfl, hO, hS, b1⟩
 replace M := M.callO b1 (S := S3) (R := fun w => v9 w (.slice ab b.length cb) b S3) (fun w w' h hs => v9.same h hs) hO (fun b hb => hS b hb)
 clear hO hS b1
 have q2_9 := M.c 2 9 rfl rfl
 have q0_10 := M.c 0 10 rfl rfl
 have fo := M.f 2 rfl
 have M2 := (M.set 2 rfl 9 (.slice ab b.length cb))
 have HM2 := show Hid _ from M2
 clear M M2
 go_wp2_with fail
 have M := HM2.out
 clear HM2 fo q2_9 q0_10
 refine (am4 e ihe φ _ _ (HG.out _ (M.below fun _ _ => trivial)).2.2.2 (by have := HZ.out; omega)).mono ?_
 rintro x w1 ⟨ae, ce, S4, rfl, hO, hS, b1⟩
 replace M := M.callO b1 (S := S4) (R := fun w => v9 w (.slice ae e.length ce) e S4) (fun w w' h hs => v9.same h hs) hO (fun b hb => hS b hb)
 clear hO hS b1
 replace M := M.as [.box w.heap.size [.int .i64 k, .int .i64 t, .int .i64 i.kind, .int .i64 i.value, iv, .int .i64 v.kind, .int .i64 v.value, vv, .int .i64 c, bv, ev], .box (w.heap.size + 1) [.int .i64 0, .int .i64 0, .int .i64 0, .int .i64 0, .slice none 0 0, .int .i64 0, .int .i64 0, .slice none 0 0, .int .i64 0, .slice none 0 0, .slice none 0 0], .box (w.heap.size + 1 + 1) [.int .i64 k, .int .i64 t, .int .i64 i.kind, .int .i64 i.value, .slice ai i.kids.length ci, .int .i64 v.kind, .int .i64 v.value, .slice av v.kids.length cv, .int .i64 c, .slice ab b.length cb, .slice none 0 0], .own S1 (fun w => A2 w (.slice ai i.kids.length ci) i.kids S1), .own S2 (fun w => A2 w (.slice av v.kids.length cv) v.kids S2), .own S3 (fun w => v9 w (.slice ab b.length cb) b S3), .own S4 (fun w => v9 w (.slice ae e.length ce) e S4)] rfl
 have o0 : World.cell? _ ⟨w.heap.size + 1 + 1, 0, none⟩ = some (.int .i64 k) := M.c 2 0 rfl rfl
 have o1 : World.cell? _ ⟨w.heap.size + 1 + 1, 1, none⟩ = some (.int .i64 t) := M.c 2 1 rfl rfl
 have o2 : World.cell? _ ⟨w.heap.size + 1 + 1, 2, none⟩ = some (.int .i64 i.kind) := M.c 2 2 rfl rfl
 have o3 : World.cell? _ ⟨w.heap.size + 1 + 1, 3, none⟩ = some (.int .i64 i.value) := M.c 2 3 rfl rfl
 have o4 : World.cell? _ ⟨w.heap.size + 1 + 1, 4, none⟩ = some (.slice ai i.kids.length ci) := M.c 2 4 rfl rfl
 have o5 : World.cell? _ ⟨w.heap.size + 1 + 1, 5, none⟩ = some (.int .i64 v.kind) := M.c 2 5 rfl rfl
 have o6 : World.cell? _ ⟨w.heap.size + 1 + 1, 6, none⟩ = some (.int .i64 v.value) := M.c 2 6 rfl rfl
 have o7 : World.cell? _ ⟨w.heap.size + 1 + 1, 7, none⟩ = some (.slice av v.kids.length cv) := M.c 2 7 rfl rfl
 have o8 : World.cell? _ ⟨w.heap.size + 1 + 1, 8, none⟩ = some (.int .i64 c) := M.c 2 8 rfl rfl
 have o9 : World.cell? _ ⟨w.heap.size + 1 + 1, 9, none⟩ = some (.slice ab b.length cb) := M.c 2 9 rfl rfl
 have o10 : World.cell? _ ⟨w.heap.size + 1 + 1, 10, none⟩ = some (.slice none 0 0) := M.c 2 10 rfl rfl
 have z0 : World.cell? _ ⟨w.heap.size + 1, 0, none⟩ = some (.int .i64 0) := M.c 1 0 rfl rfl
 have z1 : World.cell? _ ⟨w.heap.size + 1, 1, none⟩ = some (.int .i64 0) := M.c 1 1 rfl rfl
 have z2 : World.cell? _ ⟨w.heap.size + 1, 2, none⟩ = some (.int .i64 0) := M.c 1 2 rfl rfl
 have z3 : World.cell? _ ⟨w.heap.size + 1, 3, none⟩ = some (.int .i64 0) := M.c 1 3 rfl rfl
 have z4 : World.cell? _ ⟨w.heap.size + 1, 4, none⟩ = some (.slice none 0 0) := M.c 1 4 rfl rfl
 have z5 : World.cell? _ ⟨w.heap.size + 1, 5, none⟩ = some (.int .i64 0) := M.c 1 5 rfl rfl
 have z6 : World.cell? _ ⟨w.heap.size + 1, 6, none⟩ = some (.int .i64 0) := M.c 1 6 rfl rfl
 have z7 : World.cell? _ ⟨w.heap.size + 1, 7, none⟩ = some (.slice none 0 0) := M.c 1 7 rfl rfl
 have z8 : World.cell? _ ⟨w.heap.size + 1, 8, none⟩ = some (.int .i64 0) := M.c 1 8 rfl rfl
 have z9 : World.cell? _ ⟨w.heap.size + 1, 9, none⟩ = some (.slice none 0 0) := M.c 1 9 rfl rfl
 have z10 : World.cell? _ ⟨w.heap.size + 1, 10, none⟩ = some (.slice none 0 0) := M.c 1 10 rfl rfl
 have fo := M.f 2 rfl
 have fz := M.f 1 rfl
 have M2 := ((M.set 2 rfl 10 (.slice ae e.length ce)).fill 1 rfl [.int .i64 k, .int .i64 t, .int .i64 i.kind, .int .i64 i.value, .slice ai i.kids.length ci, .int .i64 v.kind, .int .i64 v.value, .slice av v.kids.length cv, .int .i64 c, .slice ab b.length cb, .slice ae e.length ce] rfl).as [.box w.heap.size [.int .i64 k, .int .i64 t, .int .i64 i.kind, .int .i64 i.value, iv, .int .i64 v.kind, .int .i64 v.value, vv, .int .i64 c, bv, ev], .box (w.heap.size + 1) [.int .i64 k, .int .i64 t, .int .i64 i.kind, .int .i64 i.value, .slice ai i.kids.length ci, .int .i64 v.kind, .int .i64 v.value, .slice av v.kids.length cv, .int .i64 c, .slice ab b.length cb, .slice ae e.length ce], .box (w.heap.size + 1 + 1) [.int .i64 k, .int .i64 t, .int .i64 i.kind, .int .i64 i.value, .slice ai i.kids.length ci, .int .i64 v.kind, .int .i64 v.value, .slice av v.kids.length cv, .int .i64 c, .slice ab b.length cb, .slice ae e.length ce], .own S1 (fun w => A2 w (.slice ai i.kids.length ci) i.kids S1), .own S2 (fun w => A2 w (.slice av v.kids.length cv) v.kids S2), .own S3 (fun w => v9 w (.slice ab b.length cb) b S3), .own S4 (fun w => v9 w (.slice ae e.length ce) e S4)] rfl
 simp only [World.setFrom] at M2
 have HM2 := show Hid _ from M2
 clear M M2
 go_wp2_with fail
 have M2 := HM2.out
 have r0 : World.cell? _ ⟨w.heap.size + 1, 0, none⟩ = some (.int .i64 k) := M2.c 1 0 rfl rfl
 have r1 : World.cell? _ ⟨w.heap.size + 1, 1, none⟩ = some (.int .i64 t) := M2.c 1 1 rfl rfl
 have r2 : World.cell? _ ⟨w.heap.size + 1, 2, none⟩ = some (.int .i64 i.kind) := M2.c 1 2 rfl rfl
 have r3 : World.cell? _ ⟨w.heap.size + 1, 3, none⟩ = some (.int .i64 i.value) := M2.c 1 3 rfl rfl
 have r4 : World.cell? _ ⟨w.heap.size + 1, 4, none⟩ = some (.slice ai i.kids.length ci) := M2.c 1 4 rfl rfl
 have r5 : World.cell? _ ⟨w.heap.size + 1, 5, none⟩ = some (.int .i64 v.kind) := M2.c 1 5 rfl rfl
 have r6 : World.cell? _ ⟨w.heap.size + 1, 6, none⟩ = some (.int .i64 v.value) := M2.c 1 6 rfl rfl
 have r7 : World.cell? _ ⟨w.heap.size + 1, 7, none⟩ = some (.slice av v.kids.length cv) := M2.c 1 7 rfl rfl
 have r8 : World.cell? _ ⟨w.heap.size + 1, 8, none⟩ = some (.int .i64 c) := M2.c 1 8 rfl rfl
 have r9 : World.cell? _ ⟨w.heap.size + 1, 9, none⟩ = some (.slice ab b.length cb) := M2.c 1 9 rfl rfl
 have r10 : World.cell? _ ⟨w.heap.size + 1, 10, none⟩ = some (.slice ae e.length ce) := M2.c 1 10 rfl rfl
 have e1 := fun b (h1 : S1 b) => M2.dis 3 4 _ _ b rfl rfl (by omega) h1
 have e2 := fun b (h1 : S1 b) => M2.dis 3 5 _ _ b rfl rfl (by omega) h1
 have e3 := fun b (h1 : S1 b) => M2.dis 3 6 _ _ b rfl rfl (by omega) h1
 have e4 := fun b (h1 : S2 b) => M2.dis 4 5 _ _ b rfl rfl (by omega) h1
 have e5 := fun b (h1 : S2 b) => M2.dis 4 6 _ _ b rfl rfl (by omega) h1
 have e6 := fun b (h1 : S3 b) => M2.dis 5 6 _ _ b rfl rfl (by omega) h1
 refine bodyPost_ret (v := .agg #[.int .i64 k, .int .i64 t, .int .i64 i.kind, .int .i64 i.value, .slice ai i.kids.length ci, .int .i64 v.kind, .int .i64 v.value, .slice av v.kids.length cv, .int .i64 c, .slice ab b.length cb, .slice ae e.length ce]) (by simp [results, Tryz.results162, go_sem, r0, r1, r2, r3, r4, r5, r6, r7, r8, r9, r10]) rfl ⟨ai, ci, av, cv, ab, cb, ae, ce, fun b => S1 b ∨ S2 b ∨ S3 b ∨ S4 b, rfl, (E8.iff ⟨k, t, i, v, c, b, e⟩ _ _).2 ⟨_, _, _, _, S1, S2, S3, S4, rfl, ⟨fun b hb => ⟨.inl hb, e1 b hb, e2 b hb, e3 b hb⟩, fun b hb => ⟨.inr (.inl hb), e4 b hb, e5 b hb⟩, fun b hb => ⟨.inr (.inr (.inl hb)), e6 b hb⟩, fun b hb => .inr (.inr (.inr hb))⟩, M2.o 3 rfl, M2.o 4 rfl, M2.o 5 rfl, M2.o 6 rfl⟩, fun b hb => ?_, M2.below fun _ _ => trivial⟩
 have fin : ∀ (j : Nat) (S : Nat → Prop) (R : World → Prop) (L : List U7) (W : World), A1 (fun _ => True) (fun _ => True) w W L → L[j]? = some (.own S R) → S b → w.heap.size ≤ b ∧ b < W.heap.size := fun j S R L W M hj hs =>
  ⟨(M.ge _ b (bG4 hj) hs).elim (fun h => h) fun h => absurd bF3 h, M.lt (bG4 hj) hs⟩
 rcases hb with hb | hb | hb | hb
 ·exact fin 3 _ _ _ _ M2 rfl hb
 ·exact fin 4 _ _ _ _ M2 rfl hb
 ·exact fin 5 _ _ _ _ M2 rfl hb
 ·exact fin 6 _ _ _ _ M2 rfl hb
theorem ak2 (φ : Nat → Prop) (u : Value) (p : b9) (w : World) (h : af7 w φ u p) (hb : p.size ≤ 1048576) :
  Calls Tryz.prog 28 #[u] w fun x w' => ∃ a1 k1 a2 k2 a3 k3 S, x = .returned (.agg #[.slice a1 p.vars.length k1, .slice a2 p.arrays.length k2, .slice a3 p.body.length k3]) ∧ af8 w' (.agg #[.slice a1 p.vars.length k1, .slice a2 p.arrays.length k2, .slice a3 p.body.length k3]) p S ∧ (∀ b, S b → w.heap.size ≤ b ∧ b < w'.heap.size) ∧ Below w.heap.size w w' := by
 obtain ⟨v1, v2, v3, rfl, h1, h2, h3⟩ := h
 have hsz : p.vars.length + p.arrays.length + l7 p.body ≤ 1048576 := hb
 obtain ⟨W, hW, M⟩ : ∃ W, W = (((w.alloc (.cells #[v1, v2, v3] 43)).alloc (.cells #[.slice none 0 0, .slice none 0 0, .slice none 0 0] 26)).alloc (.cells #[.slice none 0 0, .slice none 0 0, .slice none 0 0] 26)) ∧ A1 (fun _ => True) (fun _ => True) w W [.box w.heap.size [v1, v2, v3], .box (w.heap.size + 1) [.slice none 0 0, .slice none 0 0, .slice none 0 0], .box (w.heap.size + 1 + 1) [.slice none 0 0, .slice none 0 0, .slice none 0 0]] :=
  ⟨_, rfl, (((A1.start fun _ _ => trivial).box _ _).box' _ _ (by simp)).box' _ _ (by simp)⟩
 have HG := show Hid (∀ W', Below w.heap.size w W' → Q8 W' v1 p.vars.length 1 (ints p.vars) ∧ Q8 W' v2 p.arrays.length 1 (ints p.arrays) ∧ s0 W' φ v3 p.body) from fun W' k =>
  ⟨h1.row.below k, h2.row.below k, s0.nice _ _ _ _ _ _ (J0.below k) h3⟩
 clear h1 h2 h3 hb
 have c0 := M.c 0 0 rfl rfl
 rw [hW] at c0
 have HZ := show Hid _ from hsz
 have HM := show Hid _ from M
 clear M hsz
 go_enter Tryz.func28, Tryz.ntmps28
 go_wp2_with fail
 rw [← hW]
 have M := HM.out
 clear hW HM c0
 refine (aB0 v1 p.vars _ (HG.out _ (M.below fun _ _ => trivial)).1 (by have := HZ.out; omega)).mono ?_
 rintro x w1 ⟨u1, rfl, o1, b1⟩
 obtain ⟨a1, k1, rfl⟩ := o1.form
 replace M := M.callR b1 o1.1
 clear o1 b1
 have x1 := M.c 0 1 rfl rfl
 have y0 := M.c 2 0 rfl rfl
 have fo := M.f 2 rfl
 have M2 := (M.set 2 rfl 0 (.slice a1 p.vars.length k1))
 have HM := show Hid _ from M2
 clear M M2
 go_wp2_with fail
 have M := HM.out
 clear HM x1 y0 fo
 refine (aB0 v2 p.arrays _ (HG.out _ (M.below fun _ _ => trivial)).2.1 (by have := HZ.out; omega)).mono ?_
 rintro x w2 ⟨u2, rfl, o2, b2⟩
 obtain ⟨a2, k2, rfl⟩ := o2.form
 replace M := M.callR b2 o2.1
 clear o2 b2
 have x2 := M.c 0 2 rfl rfl
 have y1 := M.c 2 1 rfl rfl
 have fo := M.f 2 rfl
 have M2 := (M.set 2 rfl 1 (.slice a2 p.arrays.length k2))
 have HM := show Hid _ from M2
 clear M M2
 go_wp2_with fail
 have M := HM.out
 clear HM x2 y1 fo
 refine (am4 p.body (fun s _ => aY8 s) φ v3 _ (HG.out _ (M.below fun _ _ => trivial)).2.2 (by have := HZ.out; omega)).mono ?_
 rintro x w3 ⟨a3, k3, S3, rfl, hO, hS, b3⟩
 replace M := M.callO b3 (S := S3) (R := fun w => v9 w (.slice a3 p.body.length k3) p.body S3) (fun w w' h hs => v9.same h hs) hO (fun b hb => hS b hb)
 clear hO hS b3
 have y0 : World.cell? _ ⟨w.heap.size + 1 + 1, 0, none⟩ = some (.slice a1 p.vars.length k1) := M.c 2 0 rfl rfl
 have y1 : World.cell? _ ⟨w.heap.size + 1 + 1, 1, none⟩ = some (.slice a2 p.arrays.length k2) := M.c 2 1 rfl rfl
 have y2 : World.cell? _ ⟨w.heap.size + 1 + 1, 2, none⟩ = some (.slice none 0 0) := M.c 2 2 rfl rfl
 have z0 := M.c 1 0 rfl rfl
 have z1 := M.c 1 1 rfl rfl
 have z2 := M.c 1 2 rfl rfl
 have fo := M.f 2 rfl
 have fz := M.f 1 rfl
 have M2 := (M.set 2 rfl 2 (.slice a3 p.body.length k3)).fill 1 rfl [.slice a1 p.vars.length k1, .slice a2 p.arrays.length k2, .slice a3 p.body.length k3] rfl
 simp only [World.setFrom] at M2
 have HM2 := show Hid _ from M2
 clear M M2
 go_wp2_with fail
 have M2 := HM2.out
 have r0 : World.cell? _ ⟨w.heap.size + 1, 0, none⟩ = some (.slice a1 p.vars.length k1) := M2.c 1 0 rfl rfl
 have r1 : World.cell? _ ⟨w.heap.size + 1, 1, none⟩ = some (.slice a2 p.arrays.length k2) := M2.c 1 1 rfl rfl
 have r2 : World.cell? _ ⟨w.heap.size + 1, 2, none⟩ = some (.slice a3 p.body.length k3) := M2.c 1 2 rfl rfl
 have fin : ∀ (b j : Nat) (r : U7) (L : List U7) (W : World), A1 (fun _ => True) (fun _ => True) w W L → L[j]? = some r → r.blk b → w.heap.size ≤ b ∧ b < W.heap.size := fun b j r L W M hj hs =>
  ⟨(M.ge _ b (bG4 hj) hs).elim (fun h => h) fun h => absurd bF3 h, M.lt (bG4 hj) hs⟩
 have e1 := fun b => M2.dis 3 4 _ _ b rfl rfl (by omega)
 have e2 := fun b => M2.dis 3 5 _ _ b rfl rfl (by omega)
 have e3 := fun b => M2.dis 4 5 _ _ b rfl rfl (by omega)
 refine bodyPost_ret (v := .agg #[.slice a1 p.vars.length k1, .slice a2 p.arrays.length k2, .slice a3 p.body.length k3]) (by simp [results, Tryz.results28, go_sem, r0, r1, r2]) rfl ⟨a1, k1, a2, k2, a3, k3, fun b => (Value.slice a1 p.vars.length k1).ownBlock = some b ∨ (Value.slice a2 p.arrays.length k2).ownBlock = some b ∨ S3 b, rfl,
  ⟨_, _, _, S3, rfl, M2.r 3 rfl, M2.r 4 rfl, M2.o 5 rfl, fun g hg => ⟨.inl hg, e2 g hg, e1 g hg⟩, fun g hg => ⟨.inr (.inl hg), e3 g hg⟩, fun b hb => .inr (.inr hb)⟩, fun b hb => ?_, M2.below fun _ _ => trivial⟩
 rcases hb with hb | hb | hb
 ·exact fin b 3 _ _ _ M2 rfl hb
 ·exact fin b 4 _ _ _ M2 rfl hb
 ·exact fin b 5 _ _ _ M2 rfl hb
theorem T5 (us : List Value) : ∀ (c ys : List Value) (p : Nat), c.length ≤ p → setFrom (c ++ ys) p us = c ++ setFrom ys (p - c.length) us := by
 induction us with
 | nil => intro c ys p _; rfl
 | cons u r ih =>
  intro c ys p hp
  simp only [setFrom]
  rw [List.set_append_right _ _ hp, ih _ _ _ (by omega), show p + 1 - c.length = p - c.length + 1 by omega]
theorem U9 (us : List Value) : ∀ (c ys : List Value) (p : Nat), p + us.length ≤ c.length → setFrom (c ++ ys) p us = setFrom c p us ++ ys := by
 induction us with
 | nil => intro c ys p _; rfl
 | cons u r ih =>
  intro c ys p hp
  simp only [bF0] at hp
  simp only [setFrom]
  rw [List.set_append_left _ _ (by omega), ih _ _ _ (by simp; omega)]
theorem ak3 {c us : List Value} (h : us.length = c.length) : setFrom c 0 us = us := by
 have h1 := V8 us c 0 (by omega)
 rw [bI5, bF8 (by rw [J2]; omega)] at h1
 simpa using h1
theorem F0.len {w : World} {e : b5} {S : Nat → Prop} {c : List Value} (h : F0 w e S c) : c.length = 3 := by
 obtain ⟨kv, rfl, _⟩ := (F0.iff e S c).1 h; rfl
theorem E8.len {w : World} {s : b6} {S : Nat → Prop} {c : List Value} (h : E8 w s S c) : c.length = 11 := by
 obtain ⟨_, _, _, _, _, _, _, _, rfl, _⟩ := (E8.iff s S c).1 h; rfl
theorem s9.focus {w : World} : ∀ {ls : List b5} {S : Nat → Prop} {xs : List Value}, s9 w ls S xs → ∀ (i : Nat) (hi : i < ls.length), ∃ (c : List Value) (Sc : Nat → Prop), F0 w ls[i] Sc c ∧ (∀ b, Sc b → S b) ∧ (∀ j, j < 3 → xs[i * 3 + j]? = c[j]?) ∧
  ∀ (w' : World) (e' : b5) (c' : List Value), (∀ b, S b → ¬ Sc b → b < w.heap.size → w'.heap[b]? = w.heap[b]?) → F0 w' e' Sc c' → s9 w' (ls.set i e') S (setFrom xs (i * 3) c')
 | [], _, _, _, i, hi => by simp at hi
 | e :: r, S, xs, ⟨c, ys, S1, S2, h1, h2, h3, h4, h5⟩, i, hi => by
  have hc := h4.len
  subst h1
  cases i with
  | zero =>
   refine ⟨c, S1, h4, fun b hb => (h2 b hb).1, fun j hj => by rw [bG9 (by omega)]; simp, fun w' e' c' hs hO => ?_⟩
   refine ⟨c', ys, S1, S2, ?_, h2, h3, hO, s9.same r S2 ys h5 fun b hb hlt => hs b (h3 b hb) (fun h => (h2 b h).2 hb) hlt⟩
   rw [Nat.zero_mul, U9 c' c ys 0 (by rw [hO.len]; omega), ak3 (by rw [hO.len, hc])]
  | succ i =>
   obtain ⟨d, Sc, k1, k2, k3, k4⟩ := s9.focus h5 i (by simpa using hi)
   refine ⟨d, Sc, k1, fun b hb => h3 b (k2 b hb), fun j hj => ?_, fun w' e' c' hs hO => ?_⟩
   ·rw [bH8 (by rw [hc, bH7]; omega), ← k3 j hj]
    congr 1
    rw [hc, bH7]; omega
   ·refine ⟨c, setFrom ys (i * 3) c', S1, S2, ?_, h2, h3, F0.same e S1 c h4 fun b hb hlt => hs b (h2 b hb).1 (fun h => (h2 b hb).2 (k2 b h)) hlt, k4 w' e' c' (fun b hb hn hlt => hs b (h3 b hb) hn hlt) hO⟩
    rw [T5 c' c ys _ (by rw [hc, bH7]; omega), hc, bH7, Nat.add_sub_cancel]
theorem s8.focus {w : World} : ∀ {ls : List b6} {S : Nat → Prop} {xs : List Value}, s8 w ls S xs → ∀ (i : Nat) (hi : i < ls.length), ∃ (c : List Value) (Sc : Nat → Prop), E8 w ls[i] Sc c ∧ (∀ b, Sc b → S b) ∧ (∀ j, j < 11 → xs[i * 11 + j]? = c[j]?) ∧
  ∀ (w' : World) (e' : b6) (c' : List Value), (∀ b, S b → ¬ Sc b → b < w.heap.size → w'.heap[b]? = w.heap[b]?) → E8 w' e' Sc c' → s8 w' (ls.set i e') S (setFrom xs (i * 11) c')
 | [], _, _, _, i, hi => by simp at hi
 | e :: r, S, xs, ⟨c, ys, S1, S2, h1, h2, h3, h4, h5⟩, i, hi => by
  have hc := h4.len
  subst h1
  cases i with
  | zero =>
   refine ⟨c, S1, h4, fun b hb => (h2 b hb).1, fun j hj => by rw [bG9 (by omega)]; simp, fun w' e' c' hs hO => ?_⟩
   refine ⟨c', ys, S1, S2, ?_, h2, h3, hO, s8.same r S2 ys h5 fun b hb hlt => hs b (h3 b hb) (fun h => (h2 b h).2 hb) hlt⟩
   rw [Nat.zero_mul, U9 c' c ys 0 (by rw [hO.len]; omega), ak3 (by rw [hO.len, hc])]
  | succ i =>
   obtain ⟨d, Sc, k1, k2, k3, k4⟩ := s8.focus h5 i (by simpa using hi)
   refine ⟨d, Sc, k1, fun b hb => h3 b (k2 b hb), fun j hj => ?_, fun w' e' c' hs hO => ?_⟩
   ·rw [bH8 (by rw [hc, bH7]; omega), ← k3 j hj]
    congr 1
    rw [hc, bH7]; omega
   ·refine ⟨c, setFrom ys (i * 11) c', S1, S2, ?_, h2, h3, E8.same e S1 c h4 fun b hb hlt => hs b (h2 b hb).1 (fun h => (h2 b hb).2 (k2 b h)) hlt, k4 w' e' c' (fun b hb hn hlt => hs b (h3 b hb) hn hlt) hO⟩
    rw [T5 c' c ys _ (by rw [hc, bH7]; omega), hc, bH7, Nat.add_sub_cancel]
def mxE (ks : List b5) (k : Int) (i : Nat) : List b5 := (aa7 ks k).take i ++ ks.drop i
theorem N1 : ∀ (ks : List b5) (k : Int), (aa7 ks k).length = ks.length
 | [], _ => rfl
 | _ :: r, k => by simp [aa7, N1 r]
theorem aC9 : ∀ (ks : List b5) (k : Int) (i : Nat) (h : i < ks.length), (aa7 ks k)[i]? = some (mkE ks[i] (k + 2 * n7 (ks.take i)))
 | [], _, i, h => by simp at h
 | e :: r, k, 0, _ => by simp [aa7, n7]
 | e :: r, k, i + 1, h => by
  simp only [aa7, List.getElem?_cons_succ, List.getElem_cons_succ, List.take_succ_cons, n7]
  rw [aC9 r _ i (by simpa using h)]
  congr 2
  simp only [Int.natCast_add, Int.natCast_one]
  omega
theorem bn9 (ks : List b5) (k : Int) {i : Nat} (h : i ≤ ks.length) : (mxE ks k i).length = ks.length := by simp [mxE, N1]; omega
theorem bh0 (ks : List b5) (k : Int) : mxE ks k 0 = ks := by simp [mxE]
theorem bo0 (ks : List b5) (k : Int) : mxE ks k ks.length = aa7 ks k := by
 unfold mxE; rw [List.drop_length, List.append_nil, bF8 (by rw [N1]; exact bF7 _)]
theorem bv9 (ks : List b5) (k : Int) {i : Nat} (h : i < ks.length) : (mxE ks k i)[i]? = some ks[i] := by
 unfold mxE
 rw [bH8 (by rw [List.length_take]; omega), List.length_take, N1, Nat.min_eq_left (by omega), Nat.sub_self, List.getElem?_drop, Nat.add_zero, bF1 h]
theorem bh1 (ks : List b5) (k : Int) {i : Nat} (h : i < ks.length) : mxE ks k (i + 1) = (mxE ks k i).set i (mkE ks[i] (k + 2 * n7 (ks.take i))) := by
 have hl : ((aa7 ks k).take i).length = i := by rw [List.length_take, N1]; omega
 have hg := aC9 ks k i h
 have hi : i < (aa7 ks k).length := by rw [N1]; exact h
 rw [bF1 hi] at hg
 have hg' := Option.some.inj hg
 unfold mxE
 rw [List.set_append_right _ _ (by omega), hl, Nat.sub_self, List.drop_eq_getElem_cons h, List.set_cons_zero, p7 _ _ hi, hg']
 simp
def bC5 (e : b5) : Prop := ∀ (v : Value) (k : Int) (w : World) (S : Nat → Prop), A2 w v e.kids S → 0 ≤ k → k + 2 * n7 e.kids ≤ 9000000000000000000 →
 Calls Tryz.prog 165 #[v, .int .i64 k] w fun x w' => x = .returned (.int .i64 (k + 2 * n7 e.kids)) ∧ A2 w' v (aa7 e.kids k) S ∧ C3 (fun b => ¬ S b) w w'
theorem aq3 (ks : List b5) (ih : ∀ e ∈ ks, bC5 e) (v : Value) (k0 : Int) (w : World) (S : Nat → Prop) (h : A2 w v ks S) (hk0 : 0 ≤ k0) (hkb : k0 + 2 * n7 ks ≤ 9000000000000000000) :
  Calls Tryz.prog 165 #[v, .int .i64 k0] w fun x w' => x = .returned (.int .i64 (k0 + 2 * n7 ks)) ∧ A2 w' v (aa7 ks k0) S ∧ C3 (fun b => ¬ S b) w w' := by
 obtain ⟨xs, S', ho, hg, hs, hx⟩ := h
 obtain ⟨a, cap, rfl⟩ := ai6 ho
 have hm : ks.length ≤ 9223372036854775807 := (X5 ho).len
 have HG := show Hid _ from hg
 have HS := show Hid _ from hs
 have HX := show Hid _ from hx
 have HO := show Hid _ from ho
 clear hg hs hx ho
 go_enter Tryz.func165, Tryz.ntmps165
 go_wp2_with fail
 go_loopw [1, 5] (fun q i wr => ∃ (j : Nat) (y : Int) (xs : List Value), j ≤ ks.length ∧ i = .int .i64 j ∧ q = .int .i64 y ∧ y = k0 + 2 * n7 (ks.take j) ∧ wr.ownsRow 0 104 3 (.slice a ks.length cap) ks.length xs ∧ s9 wr (mxE ks k0 j) S' xs ∧ C3 (fun b => ¬ S b) w wr) (fun _ i _ => ks.length - (intOf i).toNat)
 case atStart => exact ⟨0, k0, xs, bH1 _, rfl, rfl, by simp [n7], HO.out, by rw [bh0]; exact HX.out, C3.refl _ _⟩
 case round =>
  obtain ⟨j, y, xs, hj, rfl, rfl, hy, ho, hx, hkp⟩ := hrel
  have HY := show Hid _ from hy
  have HKP := show Hid _ from hkp
  have HX1 := show Hid _ from hx
  have HO1 := show Hid _ from ho
  clear hy hkp hx ho
  by_cases hlt : j < ks.length
  ·have h1 := H8 hlt
   have h2 := au1 ks (j + 1)
   have hy0 : 0 ≤ y := by have := HY.out; omega
   have hy1 : y + 2 + 2 * t8 ks[j] ≤ 9000000000000000000 := by have := HY.out; omega
   have hlen := bn9 ks k0 hj
   obtain ⟨c, Sc, f1, f2, f3, f4⟩ := HX1.out.focus j (by omega)
   have hge := bv9 ks k0 hlt
   rw [bF1 (by omega)] at hge
   rw [Option.some.inj hge] at f1
   obtain ⟨kv, rfl, hkv⟩ := (F0.iff _ _ _).1 f1
   have F3 := show Hid _ from f3
   have F4 := show Hid _ from f4
   have F2 := show Hid _ from f2
   obtain ⟨g, cap', hv, -, hg2, hg3, -, -, hfr, hcell⟩ := (Q3.mk' HO1.out).open (by omega)
   cases hv
   have hxl : xs.length = ks.length * 3 := HO1.out.1
   have e0 := hcell (j * 3) (.int .i64 ks[j].kind) (by simpa using f3 0 (by omega))
   have e1 := hcell (j * 3 + 1) (.int .i64 ks[j].value) ((f3 1 (by omega)).trans rfl)
   have e2 := hcell (j * 3 + 2) kv ((f3 2 (by omega)).trans rfl)
   have hSg : ¬ S' g := (HG.out g rfl).2
   have HSG := show Hid _ from hSg
   have HK := show Hid _ from hkv
   have HXL := show Hid _ from hxl
   have HH := show Hid _ from And.intro h1 h2
   clear hcell f1 f2 f3 f4 hkv hge hlen hSg hxl h1 h2
   go_wp2_with fail
   refine (ih _ (bG5 hlt) kv (y + 1 + 1) _ Sc (A2.same HK.out fun b hb hl => ?_) (by omega) ?_).mono ?_
   ·have hbg : b ≠ g := fun e => HSG.out (by rw [← e]; exact F2.out b hb)
    rw [Below.heap_setCell _ _ _ _ hbg, Below.heap_setCell _ _ _ _ hbg]
   ·have : n7 ks[j].kids = t8 ks[j] := (by cases ks[j]; rfl)
    omega
   rintro x w2 ⟨rfl, hk2, kp2⟩
   have hkids : n7 ks[j].kids = t8 ks[j] := (by cases ks[j]; rfl)
   rw [hkids]
   have r1 := ((Q3.mk' HO1.out).setCell (j := j * 3) (by rw [HXL.out]; omega) (.int .i64 y)).setCell (j := j * 3 + 1) (by rw [List.length_set, HXL.out]; omega) (.int .i64 (y + 1))
   have hxs : (xs.set (j * 3) (.int .i64 y)).set (j * 3 + 1) (.int .i64 (y + 1)) = setFrom xs (j * 3) [.int .i64 y, .int .i64 (y + 1), kv] := by
    simp only [setFrom]
    have h3 : xs[j * 3 + 1 + 1]? = some kv := (F3.out 2 (by omega)).trans rfl
    apply List.ext_getElem?
    intro q
    rw [List.getElem?_set (i := j * 3 + 1 + 1)]
    split
    ·rename_i e
     subst e
     rw [List.getElem?_set_ne (by omega), List.getElem?_set_ne (by omega), h3]
     have := (bG0.1 h3).1
     simp [this]
    ·rfl
   rw [hxs] at r1
   have hne : ¬ Sc g := fun h => HSG.out (F2.out g h)
   have r2 := G9 (I7 r1.1 (bH1 _)) (w' := w2) fun g' hg' => by
    cases hg'
    exact kp2.block g (by simp; exact hg3) hne
   have hx2 := F4.out w2 (mkE ks[j] y) [.int .i64 y, .int .i64 (y + 1), kv] (fun b hb hn hl => by
    have hbg : b ≠ g := fun e => HSG.out (by rw [← e]; exact hb)
    rw [kp2.block b (by simp; exact hl) hn, Below.heap_setCell _ _ _ _ hbg, Below.heap_setCell _ _ _ _ hbg]) ((F0.iff _ _ _).2 ⟨kv, by cases ks[j]; rfl, by
     have hy2 : y + 1 + 1 = y + 2 := by omega
     rw [hy2] at hk2
     cases hkj : ks[j] with
     | mk a1 b1 c1 => rw [hkj] at hk2; exact hk2⟩)
   have hmx := bh1 ks k0 hlt
   rw [← HY.out] at hmx
   rw [← hmx] at hx2
   have hkept : C3 (fun b => ¬ S b) w w2 := HKP.out.trans (((C3.setCell wr g (j * 3) (.int .i64 y)).trans (C3.setCell _ g (j * 3 + 1) (.int .i64 (y + 1)))).mono (fun b hb e => hb (by rw [e]; exact (HG.out g rfl).1)) |>.trans (kp2.mono fun b hb h => hb (HS.out b (F2.out b h))))
   have HF := show Hid _ from And.intro r2 (And.intro hx2 hkept)
   have hsz0 : (0 : Int) ≤ t8 ks[j] := by omega
   clear r1 r2 hx2 hkept hmx hxs hkids hk2 kp2
   obtain ⟨z, hz⟩ : ∃ z : Nat, z = t8 ks[j] := ⟨_, rfl⟩
   have HZ := show Hid _ from hz
   rw [← hz] at hy1 hsz0 ⊢
   clear hz
   go_wp2_with fail
   exact ⟨⟨j + 1, _, _, by omega, by go_num, rfl, by rw [HH.out.1, HY.out, ← HZ.out]; omega, HF.out.1, HF.out.2.1, HF.out.2.2⟩, by simp [intOf]; omega⟩
  ·have hjn : j = ks.length := by omega
   subst hjn
   go_wp2_with fail
   go_ret
   exact ⟨w6 (by have := HY.out; rw [bF8 (bF7 _)] at this; exact this), ⟨xs, S', by rw [N1]; exact HO1.out, HG.out, HS.out, by rw [← bo0]; exact HX1.out⟩, HKP.out⟩
section
variable {φ ψ : Nat → Prop} {w0 w w' : World} {L : List U7}
theorem s9.at : ∀ {ks : List b5} {S : Nat → Prop} {xs : List Value}, s9 w ks S xs → ∀ (i : Nat) (hi : i < ks.length), ∃ kv, xs[i * 3]? = some (.int .i64 ks[i].kind) ∧ xs[i * 3 + 1]? = some (.int .i64 ks[i].value) ∧ xs[i * 3 + 2]? = some kv ∧ A2 w kv ks[i].kids S
 | [], _, _, _, i, hi => by simp at hi
 | e :: r, S, _, ⟨c, ys, S1, S2, h1, h2, h3, h4, h5⟩, i, hi => by
  obtain ⟨kv, rfl, hk⟩ := (F0.iff e S1 c).1 h4
  subst h1
  cases i with
  | zero => exact ⟨kv, rfl, rfl, rfl, hk.mono fun b hb => (h2 b hb).1⟩
  | succ i =>
   obtain ⟨kv', a, b, d, f⟩ := s9.at h5 i (by simpa using hi)
   refine ⟨kv', ?_, ?_, ?_, f.mono h3⟩ <;> (rw [bH7]; simpa [Nat.add_assoc] using by assumption)
theorem A2.open {v : Value} {ks : List b5} {S : Nat → Prop} (h : A2 w v ks S) : ∃ a cap, v = .slice a ks.length cap ∧ ks.length ≤ cap ∧ ks.length ≤ 9223372036854775807 ∧ cap ≤ 9223372036854775807 ∧
  ∀ i (hi : i < ks.length), ∃ b off kv, a = some ⟨b, off, none⟩ ∧ b < w.heap.size ∧ S b ∧ w.cell? ⟨b, off + i * 3, none⟩ = some (.int .i64 ks[i].kind) ∧ w.cell? ⟨b, off + i * 3 + 1, none⟩ = some (.int .i64 ks[i].value) ∧ w.cell? ⟨b, off + i * 3 + 2, none⟩ = some kv ∧ A2 w kv ks[i].kids S := by
 obtain ⟨xs, S', h2, h3, h4, h5⟩ := h
 obtain ⟨hl, a, cap, hv, n1, n2, n3⟩ := G0 (φ := fun g => S g ∧ ¬ S' g) h2 h3
 unfold maxLen at n2
 refine ⟨a, cap, hv, n1, by omega, by omega, fun i hi => ?_⟩
 obtain ⟨b, off, he, hb, hf, hc⟩ := n3 (by omega)
 obtain ⟨kv, e0, e1, e2, hk⟩ := h5.at i hi
 exact ⟨b, off, kv, he, hb, hf.1, hc _ _ e0, hc _ _ e1, hc _ _ e2, hk.mono h4⟩
theorem A2.nil (w : World) (S : Nat → Prop) : A2 w (.slice none 0 0) [] S := ⟨[], fun _ => False, World.ownsRow_nil _ _ _ _, (fun g hg => by cases hg), fun _ h => h.elim, rfl⟩
end
theorem ak4 (ks : List b5) (v : Value) (k0 : Int) (w : World) (S : Nat → Prop) (h : A2 w v ks S) (hk0 : 0 ≤ k0) (hkb : k0 + 2 * n7 ks ≤ 9000000000000000000) :
  Calls Tryz.prog 165 #[v, .int .i64 k0] w fun x w' => x = .returned (.int .i64 (k0 + 2 * n7 ks)) ∧ A2 w' v (aa7 ks k0) S ∧ C3 (fun b => ¬ S b) w w' :=
 aq3 ks (fun e _ => b5.ind (P := bC5) (fun _ _ ks ih v k w S h h0 hb => aq3 ks ih v k w S h h0 hb) e) v k0 w S h hk0 hkb
def bt7 (e : b5) : Prop := ∀ (φ : Nat → Prop) (v : Value) (k : Int) (w : World), p8 w φ v (aa7 e.kids k) → 0 ≤ k → k + 2 * n7 e.kids ≤ 9000000000000000000 →
 Calls Tryz.prog 166 #[v, .int .i64 k] w fun x w' => x = .returned (.int .i64 (k + 2 * n7 e.kids)) ∧ Below w.heap.size w w'
theorem ar0 (ks : List b5) (ih : ∀ e ∈ ks, bt7 e) (φ : Nat → Prop) (v : Value) (k0 : Int) (w : World) (h : p8 w φ v (aa7 ks k0)) (hk0 : 0 ≤ k0) (hkb : k0 + 2 * n7 ks ≤ 9000000000000000000) :
  Calls Tryz.prog 166 #[v, .int .i64 k0] w fun x w' => x = .returned (.int .i64 (k0 + 2 * n7 ks)) ∧ Below w.heap.size w w' := by
 obtain ⟨a, cap, rfl, -, hn, -, hc⟩ := h.open
 rw [N1] at hn ⊢
 have HC := show Hid _ from hc
 clear hc h
 go_enter Tryz.func166, Tryz.ntmps166
 go_wp2_with fail
 go_loopw [1, 5] (fun q i wr => ∃ (j : Nat) (y : Int), j ≤ ks.length ∧ i = .int .i64 j ∧ q = .int .i64 y ∧ y = k0 + 2 * n7 (ks.take j) ∧ Below w.heap.size w wr) (fun _ i _ => ks.length - (intOf i).toNat)
 case atStart => exact ⟨0, k0, bH1 _, rfl, rfl, by simp [n7], Below.refl _ _⟩
 case round =>
  obtain ⟨j, y, hj, rfl, rfl, hy, hb⟩ := hrel
  have HY := show Hid _ from hy
  have HB := show Hid _ from hb
  clear hy hb
  by_cases hlt : j < ks.length
  ·have h1 := H8 hlt
   have h2 := au1 ks (j + 1)
   have hy0 : 0 ≤ y := by have := HY.out; omega
   have hy1 : y + 2 + 2 * t8 ks[j] ≤ 9000000000000000000 := by have := HY.out; omega
   have hge := aC9 ks k0 j hlt
   rw [← HY.out, bF1 (by rw [N1]; exact hlt)] at hge
   have hge' := Option.some.inj hge
   obtain ⟨b, off, kv, rfl, hbk, hf, c0, c1, c2, hkv⟩ := HC.out j (by rw [N1]; exact hlt)
   rw [hge'] at c0 c1 hkv
   rw [← (T9 HB.out).1 _ _ hbk] at c0 c1 c2
   have hkids : n7 ks[j].kids = t8 ks[j] := (by cases ks[j]; rfl)
   have d0 : (mkE ks[j] y).kind = y := by cases ks[j]; rfl
   have d1 : (mkE ks[j] y).value = y + 1 := by cases ks[j]; rfl
   have d2 : (mkE ks[j] y).kids = aa7 ks[j].kids (y + 2) := by cases ks[j]; rfl
   rw [d0] at c0
   rw [d1] at c1
   rw [d2] at hkv
   have HK := show Hid (p8 wr φ kv (aa7 ks[j].kids (y + 1 + 1))) from by rw [show y + 1 + 1 = y + 2 by omega]; exact p8.nice _ _ _ _ _ _ (J0.below HB.out) hkv
   have HH := show Hid _ from And.intro h1 h2
   have HKS := show Hid _ from hkids
   clear hkv hge hge' d0 d1 d2 h1 h2 hkids
   go_wp2_with fail
   refine (ih _ (bG5 hlt) φ kv (y + 1 + 1) _ HK.out (by omega) (by rw [HKS.out]; omega)).mono ?_
   rintro x w2 ⟨rfl, b2⟩
   rw [HKS.out]
   have B2 := show Hid _ from HB.out.trans (b2.mono HB.out.size)
   obtain ⟨z, hz⟩ : ∃ z : Nat, z = t8 ks[j] := ⟨_, rfl⟩
   have HZ := show Hid _ from hz
   have hsz0 : (0 : Int) ≤ (z : Int) := by omega
   rw [← hz] at hy1 ⊢
   clear hz b2
   go_wp2_with fail
   exact ⟨⟨j + 1, _, by omega, by go_num, rfl, by rw [HH.out.1, HY.out, ← HZ.out]; omega, B2.out⟩, by simp [intOf]; omega⟩
  ·have hjn : j = ks.length := by omega
   subst hjn
   go_wp2_with fail
   go_ret
   exact ⟨w6 (by have := HY.out; rw [bF8 (bF7 _)] at this; exact this), HB.out⟩
theorem ak6 (ks : List b5) (φ : Nat → Prop) (v : Value) (k0 : Int) (w : World) (h : p8 w φ v (aa7 ks k0)) (hk0 : 0 ≤ k0) (hkb : k0 + 2 * n7 ks ≤ 9000000000000000000) :
  Calls Tryz.prog 166 #[v, .int .i64 k0] w fun x w' => x = .returned (.int .i64 (k0 + 2 * n7 ks)) ∧ Below w.heap.size w w' :=
 ar0 ks (fun e _ => b5.ind (P := bt7) (fun _ _ ks ih φ v k w h h0 hb => ar0 ks ih φ v k w h h0 hb) e) φ v k0 w h hk0 hkb
end Go.Proofs.YthikdkjjdeehoaaGreat
