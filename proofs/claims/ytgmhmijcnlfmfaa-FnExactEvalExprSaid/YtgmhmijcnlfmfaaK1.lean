/- Part 1: functions on the way, plain laws. Conditions: as said. -/
import Derived.WalkKit
import Derived.ProofKit
import Derived.Handy
import Derived.WalkSmall
import Derived.Deep.QuietTactic
import Derived.BigQuiet
import Derived.StillTailTactics
import Derived.Deep.Quiet
import Derived.StillTail
import Derived.Test.YtgmhmijcnlfmfaaRows
import Derived.Maps.AppendAt
import Derived.ArgAppend
import Derived.Deep.Upon
set_option maxRecDepth 100000
set_option maxHeartbeats 16000000
set_option linter.unusedVariables false
set_option linter.unusedSimpArgs false
open Bool renaming and_eq_true → bf0, eq_iff_iff → bh0
open List renaming all_eq_true → bf9, getElem?_append_left → bh5, getElem?_append_right → bh6, getElem?_eq_getElem → be9, getElem?_eq_none → bh4, getElem?_eq_some_iff → bf3, getElem_mem → bg4, length_append → bh9, length_cons → bi0, length_take → bi5, map_cons → bh1, mem_append → bg8, mem_cons → bi6, mem_cons_of_mem → bg5, mem_cons_self → bg2, mem_of_getElem? → bf7, mem_singleton → bh3, range → bg0, replicate → bh8, take_of_length_le → bf6
open Nat renaming add_zero → bi2, le_refl → bf5, le_trans → bi1, lt_of_lt_of_le → bg6, lt_or_ge → bh7, mul_le_mul_right → bi3, succ_mul → bg9, zero_add → bi4, zero_le → bg3
open True renaming intro → bf4

namespace Go.Proofs.Ytgmhmijcnlfmfaa
open Go Go.RowKit
def K5 (w : World) (v : Value) (n sz : Nat) (xs : List Value) : Prop :=
 xs.length = n * sz ∧ ∃ a cap, v = .slice a n cap ∧ n ≤ cap ∧ cap ≤ maxLen ∧
  (0 < n → ∃ b off, a = some ⟨b, off, none⟩ ∧ b < w.heap.size ∧ ∀ j u, xs[j]? = some u → w.cell? ⟨b, off + j, none⟩ = some u)
theorem V9 {W w1 : World} (hb : Below W.heap.size W w1) : (∀ b o, b < W.heap.size → w1.cell? ⟨b, o, none⟩ = W.cell? ⟨b, o, none⟩) ∧ (∀ b o, b < W.heap.size → w1.frozen? ⟨b, o, none⟩ = W.frozen? ⟨b, o, none⟩) :=
 ⟨fun b o h => hb.cell (p := ⟨b, o, none⟩) h, fun b o h => hb.frozen (p := ⟨b, o, none⟩) h⟩
theorem K5.below {w w' : World} {v : Value} {n sz : Nat} {xs : List Value} (h : K5 w v n sz xs) (hb : Below w.heap.size w w') : K5 w' v n sz xs := by
 obtain ⟨hl, a, cap, rfl, h1, h2, h3⟩ := h
 refine ⟨hl, a, cap, rfl, h1, h2, fun hn => ?_⟩
 obtain ⟨b, off, rfl, hbk, hc⟩ := h3 hn
 exact ⟨b, off, rfl, bg6 hbk hb.size, fun j u hj => ((V9 hb).1 b _ hbk).trans (hc j u hj)⟩
theorem K5.len {w : World} {v : Value} {n sz : Nat} {xs : List Value} (h : K5 w v n sz xs) : n ≤ 9223372036854775807 := by
 obtain ⟨_, a, cap, rfl, h1, h2, _⟩ := h; unfold maxLen at h2; omega
theorem K5.nil (w : World) (sz : Nat) : K5 w (.slice none 0 0) 0 sz [] := ⟨by simp, none, 0, rfl, bf5 _, by unfold maxLen; omega, fun h => absurd h (by omega)⟩
theorem K5.open {w : World} {v : Value} {n sz : Nat} {xs : List Value} (h : K5 w v n sz xs) : ∃ a cap, v = .slice a n cap ∧ n ≤ cap ∧ n ≤ 9223372036854775807 ∧ cap ≤ 9223372036854775807 ∧
  ∀ i, i < n → ∃ b off, a = some ⟨b, off, none⟩ ∧ b < w.heap.size ∧ ∀ j, j < sz → w.cell? ⟨b, off + i * sz + j, none⟩ = xs[i * sz + j]? := by
 obtain ⟨hl, a, cap, rfl, h1, h2, h3⟩ := h
 unfold maxLen at h2
 refine ⟨a, cap, rfl, h1, by omega, by omega, fun i hi => ?_⟩
 obtain ⟨b, off, rfl, hbk, hc⟩ := h3 (by omega)
 refine ⟨b, off, rfl, hbk, fun j hj => ?_⟩
 have hlt : i * sz + j < xs.length := by
  rw [hl]; have := bi3 sz (Nat.succ_le_of_lt hi); rw [bg9] at this; omega
 rw [be9 hlt, Nat.add_assoc]
 exact hc _ _ (be9 hlt)
theorem K5.form {w : World} {v : Value} {n sz : Nat} {xs : List Value} (h : K5 w v n sz xs) : ∃ a cap, v = .slice a n cap := by
 obtain ⟨_, a, cap, hv, _⟩ := h
 exact ⟨a, cap, hv⟩
theorem K5.open1 {w : World} {v : Value} {n : Nat} {xs : List Value} (h : K5 w v n 1 xs) : ∃ a cap, v = .slice a n cap ∧ n ≤ cap ∧ n ≤ 9223372036854775807 ∧ cap ≤ 9223372036854775807 ∧
  ∀ i, i < n → ∃ b off, a = some ⟨b, off, none⟩ ∧ b < w.heap.size ∧ w.cell? ⟨b, off + i, none⟩ = xs[i]? := by
 obtain ⟨a, cap, h0, h1, h2, h3, h4⟩ := h.open
 refine ⟨a, cap, h0, h1, h2, h3, fun i hi => ?_⟩
 obtain ⟨b, off, e, hb, hc⟩ := h4 i hi
 exact ⟨b, off, e, hb, by simpa using hc 0 (by omega)⟩
theorem M9 {w : World} {base : Nat} {e : TypeId} {sz : Nat} {v : Value} {n : Nat} {xs : List Value} (h : w.ownsRow base e sz v n xs) : K5 w v n sz xs := by
 refine ⟨h.1, ?_⟩
 rcases h.2 with ⟨rfl, rfl⟩ | ⟨g, cap, cur, rfl, hbg, hg, hnc, hcm, hcs, ht⟩
 ·exact ⟨none, 0, rfl, bf5 _, by unfold maxLen; omega, fun h => absurd h (by omega)⟩
 ·refine ⟨some ⟨g, 0, none⟩, cap, rfl, hnc, hcm, fun _ => ⟨g, 0, rfl, (Array.getElem?_eq_some_iff.1 hg).1, fun j u hj => ?_⟩⟩
  have hadd : (⟨g, 0, none⟩ : Addr).add j = ⟨g, 0 + j, none⟩ := by unfold Addr.add; split <;> simp_all
  rw [← hadd]
  exact h.cells (g := g) rfl j u hj
theorem D2 {w : World} {base base' : Nat} {e : TypeId} {sz : Nat} {v : Value} {n : Nat} {xs : List Value} (h : w.ownsRow base e sz v n xs) (hb : base' ≤ base) : w.ownsRow base' e sz v n xs := by
 refine ⟨h.1, ?_⟩
 rcases h.2 with hn | ⟨g, cap, cur, rfl, hbg, r⟩
 ·exact .inl hn
 ·exact .inr ⟨g, cap, cur, rfl, by omega, r⟩
def I5 (w : World) (lo hi : Nat) (e : TypeId) (sz : Nat) (v : Value) (n : Nat) (xs : List Value) : Prop :=
 w.ownsRow lo e sz v n xs ∧ ∀ g, v.ownBlock = some g → g < hi
structure W6 (lo hi : Nat) (w w' : World) : Prop where
 os : w'.os = w.os
 tape : w'.tape = w.tape
 output : w'.output = w.output
 size : w.heap.size ≤ w'.heap.size
 block : ∀ k, k < w.heap.size → (k < lo ∨ hi ≤ k) → w'.heap[k]? = w.heap[k]?
theorem W6.refl (lo hi : Nat) (w : World) : W6 lo hi w w := ⟨rfl, rfl, rfl, bf5 _, fun _ _ _ => rfl⟩
theorem W6.trans {lo hi : Nat} {a b c : World} (h : W6 lo hi a b) (k : W6 lo hi b c) : W6 lo hi a c :=
 ⟨k.os.trans h.os, k.tape.trans h.tape, k.output.trans h.output, bi1 h.size k.size, fun i hi ho => (k.block i (bg6 hi h.size) ho).trans (h.block i hi ho)⟩
theorem W6.wide {lo hi lo' hi' : Nat} {a b : World} (h : W6 lo hi a b) (h1 : lo' ≤ lo) (h2 : hi ≤ hi') : W6 lo' hi' a b :=
 ⟨h.os, h.tape, h.output, h.size, fun k hk ho => h.block k hk (by omega)⟩
theorem W6.below {lo hi B : Nat} {a b : World} (h : W6 lo hi a b) (h1 : B ≤ lo) (h2 : B ≤ a.heap.size) : Below B a b :=
 ⟨h.os, h.tape, h.output, h.size, fun k hk => h.block k (by omega) (by omega)⟩
theorem W6.of_below {lo hi B : Nat} {a b : World} (h : Below B a b) (h1 : a.heap.size ≤ B) : W6 lo hi a b :=
 ⟨h.os, h.tape, h.output, h.size, fun k hk _ => h.block k (by omega)⟩
theorem W6.setCell {lo hi : Nat} {a w : World} (h : W6 lo hi a w) {p : Addr} (h1 : lo ≤ p.block) (h2 : p.block < hi) (u : Value) : W6 lo hi a (w.setCell p u) :=
 h.trans ⟨rfl, rfl, rfl, by simp [World.setCell], fun k _ ho => Below.heap_setCell _ _ _ _ (by omega)⟩
theorem I5.lt {w : World} {lo hi : Nat} {e : TypeId} {sz : Nat} {v : Value} {n : Nat} {xs : List Value} (h : I5 w lo hi e sz v n xs) : ∀ g, v.ownBlock = some g → lo ≤ g ∧ g < hi ∧ g < w.heap.size :=
 fun g hg => ⟨(h.1.lt g hg).1, h.2 g hg, (h.1.lt g hg).2⟩
theorem I5.row {w : World} {lo hi : Nat} {e : TypeId} {sz : Nat} {v : Value} {n : Nat} {xs : List Value} (h : I5 w lo hi e sz v n xs) : K5 w v n sz xs := M9 h.1
theorem I5.mk' {w : World} {lo : Nat} {e : TypeId} {sz : Nat} {v : Value} {n : Nat} {xs : List Value} (h : w.ownsRow lo e sz v n xs) : I5 w lo w.heap.size e sz v n xs :=
 ⟨h, fun g hg => (h.lt g hg).2⟩
theorem I5.wide {w : World} {lo hi lo' hi' : Nat} {e : TypeId} {sz : Nat} {v : Value} {n : Nat} {xs : List Value} (h : I5 w lo hi e sz v n xs) (h1 : lo' ≤ lo) (h2 : hi ≤ hi') : I5 w lo' hi' e sz v n xs :=
 ⟨D2 h.1 h1, fun g hg => bg6 (h.2 g hg) h2⟩
theorem I5.form {w : World} {lo hi : Nat} {e : TypeId} {sz : Nat} {v : Value} {n : Nat} {xs : List Value} (h : I5 w lo hi e sz v n xs) : ∃ a cap, v = .slice a n cap := by
 obtain ⟨_, a, cap, hv, _⟩ := h.row
 exact ⟨a, cap, hv⟩
theorem I5.same {w w' : World} {lo hi : Nat} {e : TypeId} {sz : Nat} {v : Value} {n : Nat} {xs : List Value} (h : I5 w lo hi e sz v n xs)
  (hs : ∀ g, v.ownBlock = some g → w'.heap[g]? = w.heap[g]?) : I5 w' lo hi e sz v n xs := by
 refine ⟨⟨h.1.1, ?_⟩, h.2⟩
 rcases h.1.2 with hn | ⟨g, cap, cur, rfl, hbg, hg, r⟩
 ·exact .inl hn
 ·exact .inr ⟨g, cap, cur, rfl, hbg, (hs g rfl).trans hg, r⟩
theorem I5.keep {w w' : World} {lo hi B : Nat} {e : TypeId} {sz : Nat} {v : Value} {n : Nat} {xs : List Value} (h : I5 w lo hi e sz v n xs) (hb : Below B w w') (hB : hi ≤ B) : I5 w' lo hi e sz v n xs :=
 h.same fun g hg => hb.block g (by have := h.lt g hg; omega)
theorem I5.out {w w' : World} {lo hi lo' hi' : Nat} {e : TypeId} {sz : Nat} {v : Value} {n : Nat} {xs : List Value} (h : I5 w lo hi e sz v n xs) (ho : W6 lo' hi' w w') (hd : hi ≤ lo' ∨ hi' ≤ lo) : I5 w' lo hi e sz v n xs :=
 h.same fun g hg => ho.block g (h.lt g hg).2.2 (by have := h.lt g hg; omega)
theorem I5.open {w : World} {lo hi : Nat} {e : TypeId} {sz : Nat} {v : Value} {n : Nat} {xs : List Value} (h : I5 w lo hi e sz v n xs) (hn : 0 < n) :
  ∃ g cap, v = .slice (some ⟨g, 0, none⟩) n cap ∧ lo ≤ g ∧ g < hi ∧ g < w.heap.size ∧ n ≤ cap ∧ cap ≤ maxLen ∧ (∀ o, w.frozen? ⟨g, o, none⟩ = false) ∧ ∀ j u, xs[j]? = some u → w.cell? ⟨g, j, none⟩ = some u := by
 have hl := h.lt
 rcases h.1.2 with ⟨_, h0⟩ | ⟨g, cap, cur, rfl, hbg, hg, hnc, hcm, hcs, ht⟩
 ·omega
 ·obtain ⟨l1, l2, l3⟩ := hl g rfl
  refine ⟨g, cap, rfl, l1, l2, l3, hnc, hcm, fun o => ?_, fun j u hj => ?_⟩
  ·simp only [World.frozen?, hg]; simp
  ·have hadd : (⟨g, 0, none⟩ : Addr).add j = ⟨g, j, none⟩ := by unfold Addr.add; split <;> simp_all
   rw [← hadd]
   exact h.1.cells (g := g) rfl j u hj
theorem I5.at {w : World} {lo hi : Nat} {e : TypeId} {sz : Nat} {v : Value} {n : Nat} {xs : List Value} (h : I5 w lo hi e sz v n xs) {j : Nat} (hj : j < xs.length) :
  ∃ g cap, v = .slice (some ⟨g, 0, none⟩) n cap ∧ lo ≤ g ∧ g < hi ∧ g < w.heap.size ∧ w.frozen? ⟨g, j, none⟩ = false ∧ ∃ u, w.cell? ⟨g, j, none⟩ = some u := by
 have hn : 0 < n := by
  rcases Nat.eq_zero_or_pos n with h0 | h0
  ·subst h0; have := h.1.1; omega
  ·exact h0
 obtain ⟨g, cap, hv, h1, h2, h3, _, _, h4, h5⟩ := h.open hn
 exact ⟨g, cap, hv, h1, h2, h3, h4 j, _, h5 j _ (be9 hj)⟩
theorem I5.setCell {w : World} {lo hi : Nat} {e : TypeId} {sz : Nat} {n cap g : Nat} {xs : List Value} (h : I5 w lo hi e sz (.slice (some ⟨g, 0, none⟩) n cap) n xs) {j : Nat} (_hj : j < xs.length) (u : Value) :
  I5 (w.setCell ⟨g, j, none⟩ u) lo hi e sz (.slice (some ⟨g, 0, none⟩) n cap) n (xs.set j u) := by
 refine ⟨⟨by rw [List.length_set]; exact h.1.1, ?_⟩, h.2⟩
 rcases h.1.2 with ⟨hv, _⟩ | ⟨g', cap', cur, hv, hbg, hg, hnc, hcm, hcs, ht⟩
 ·cases hv
 ·cases hv
  refine .inr ⟨g, cap, cur.setIfInBounds j u, rfl, hbg, ?_, hnc, hcm, by simpa using hcs, ?_⟩
  ·have hlt := (Array.getElem?_eq_some_iff.1 hg).1
   simp only [World.setCell, Array.getElem?_modify]
   simp [hg]
  ·rw [Array.toList_setIfInBounds, List.take_set, ht]
theorem b9 {a b : Bool} (h : a = b) : Ending.returned (.bool a) = .returned (.bool b) := by rw [h]
theorem s6 {k : IntKind} {a b : Int} (h : a = b) : Ending.returned (.int k a) = .returned (.int k b) := by rw [h]
def m8 (m : Int) (n : Nat) : Int := if m < n then -1 else m - n
theorem s5 {m : Int} {n : Nat} (h : m < n) : m8 m n = -1 := if_pos h
theorem v8 {m : Int} {n : Nat} (h : ¬ m < n) : m8 m n = m - n := if_neg h
theorem s8 {α : Type} (l : List α) (k : Nat) (h : k < l.length) : l.take (k + 1) = l.take k ++ [l[k]] := by
 rw [List.take_succ_eq_append_getElem h]
theorem T9 {α : Type} {xs ys : List α} {k : Nat} (h : xs.take k = ys.take k) (h1 : k < xs.length) (h2 : k < ys.length) (he : xs[k] = ys[k]) : xs.take (k + 1) = ys.take (k + 1) := by
 rw [s8 _ _ h1, s8 _ _ h2, h, he]
theorem M4 {α : Type} {xs ys : List α} {k : Nat} (h : xs.take k = ys.take k) (h1 : xs.length ≤ k) (h2 : ys.length ≤ k) : xs = ys := by
 rw [bf6 h1, bf6 h2] at h; exact h
theorem L8 {α : Type} (ys : List α) (k : Nat) (u : α) (h : k < ys.length) : (ys.set k u).take (k + 1) = ys.take k ++ [u] := by
 rw [s8 _ _ (by simpa using h), List.take_set_of_le (bf5 _)]; simp
def D6 (z : List Value) (n : Nat) : List Value := (bh8 n z).flatten
theorem J7 (z : List Value) (n : Nat) : (D6 z n).length = n * z.length := by simp [D6]
theorem ah2 (z : Value) (n : Nat) : D6 [z] n = bh8 n z := by
 unfold D6
 induction n with
 | zero => rfl
 | succ n ih => rw [List.replicate_succ, List.flatten_cons, ih]; rfl
theorem am0 (z : Array Value) (n : Nat) (_hz : 0 < z.size) : madeCells z (n * z.size) = (D6 z.toList n).toArray := by
 apply Array.ext
 ·simp [size_madeCells, J7]
 ·intro i h1 h2
  simp only [madeCells, Array.getElem_map, Array.getElem_range, List.getElem_toArray]
  have hlt : i < (D6 z.toList n).length := by simpa using h2
  have key : ∀ (m i : Nat), i < (D6 z.toList m).length → (D6 z.toList m)[i]? = some (z[i % z.size]!) := by
   intro m
   induction m with
   | zero => intro i hi; simp [D6] at hi
   | succ m ih =>
    intro i hi
    have e : D6 z.toList (m + 1) = z.toList ++ D6 z.toList m := by simp [D6, List.replicate_succ]
    rw [e]
    by_cases hlt : i < z.size
    ·rw [bh5 (by simpa using hlt), Nat.mod_eq_of_lt hlt]
     simp [hlt]
    ·rw [bh6 (by simp; omega)]
     have := ih (i - z.toList.length) (by rw [e, bh9] at hi; rw [Array.length_toList] at hi ⊢; omega)
     rw [this]
     congr 2
     rw [Array.length_toList]
     exact (Nat.mod_eq_sub_mod (by omega)).symm
  have := key n i hlt
  rw [be9 hlt] at this
  exact (Option.some.inj this).symm
theorem X7 {P : Program} {t e : TypeId} {z : Value} {size bytes : Nat} (ht : P.underlying t = some (.slice e)) (hi : (P.info? e).map (fun i => (i.zero, i.size, i.bytes)) = some (some z, size, bytes))
  (hz : z.cells.size = size) (hs : 0 < size) (n : Nat) (hn : bytes * n ≤ 281474976710656) (hm : n ≤ 9223372036854775807) :
  ∀ w, (Instr.makeSlice t (.int .i64 n) (.int .i64 n)).run P w = .ok (.slice (some ⟨w.heap.size, 0, none⟩) n n) (w.alloc (.cells (D6 z.cells.toList n).toArray e)) := by
 intro w
 obtain ⟨i, h1, h2, h3, h4⟩ := info_parts hi
 have := run_make (P := P) w t e i z ht h1 h2 .i64 .i64 n n (by omega) (Int.le_refl _) (by rw [h4, ← Int.natCast_mul]; omega) (by omega)
 rw [this]
 simp only [Int.toNat_natCast, h3]
 subst hz
 rw [am0 _ _ hs]
theorem af7 (w : World) {g : Nat} (cs : Array Value) (n sz : Nat) (e : TypeId) (hg : g = w.heap.size) (hz : cs.size = n * sz) (hm : n ≤ 9223372036854775807) :
  I5 (w.alloc (.cells cs e)) w.heap.size (w.heap.size + 1) e sz (.slice (some ⟨g, 0, none⟩) n n) n cs.toList := by
 subst hg
 refine ⟨⟨by simpa using hz, .inr ⟨w.heap.size, n, _, rfl, bf5 _, heap_alloc_new w _, bf5 _, by unfold maxLen; omega, hz, ?_⟩⟩, fun g hg => by cases hg; exact Nat.lt_succ_self _⟩
 rw [← hz]
 exact bf6 (by simp)
theorem X1 (w : World) (z : List Value) (n sz : Nat) (e : TypeId) (hz : z.length = sz) (hm : n ≤ 9223372036854775807) :
  I5 (w.alloc (.cells (D6 z n).toArray e)) w.heap.size (w.heap.size + 1) e sz (.slice (some ⟨w.heap.size, 0, none⟩) n n) n (D6 z n) := by
 refine ⟨⟨by rw [J7, hz], .inr ⟨w.heap.size, n, _, rfl, bf5 _, heap_alloc_new w _, bf5 _, by unfold maxLen; omega, by simp [J7, hz], ?_⟩⟩, fun g hg => by cases hg; exact Nat.lt_succ_self _⟩
 have : (D6 z n).length = n * sz := by rw [J7, hz]
 rw [← this]
 simp
def setFrom (ys : List Value) (p : Nat) : List Value → List Value
 | [] => ys
 | u :: r => setFrom (ys.set p u) (p + 1) r
def World.setFrom (w : World) (g p : Nat) : List Value → World
 | [] => w
 | u :: r => World.setFrom (w.setCell ⟨g, p, none⟩ u) g (p + 1) r
theorem D9 (us : List Value) : ∀ (ys : List Value) (p : Nat), (setFrom ys p us).length = ys.length := by
 induction us with
 | nil => intro ys p; rfl
 | cons u r ih => intro ys p; simp [setFrom, ih]
theorem O0 (us : List Value) : ∀ (ys : List Value) (p : Nat), p + us.length ≤ ys.length → (setFrom ys p us).take (p + us.length) = ys.take p ++ us := by
 induction us with
 | nil => intro ys p h; simp [setFrom]
 | cons u r ih =>
  intro ys p h
  simp only [bi0] at h
  have := ih (ys.set p u) (p + 1) (by simp; omega)
  simp only [setFrom, bi0]
  rw [show p + (r.length + 1) = p + 1 + r.length by omega, this, L8 _ _ _ (by omega)]
  simp
theorem I5.setFrom {lo hi : Nat} {e : TypeId} {sz n cap g : Nat} (us : List Value) : ∀ {w : World} {xs : List Value} {p : Nat}, I5 w lo hi e sz (.slice (some ⟨g, 0, none⟩) n cap) n xs → p + us.length ≤ xs.length →
  I5 (World.setFrom w g p us) lo hi e sz (.slice (some ⟨g, 0, none⟩) n cap) n (setFrom xs p us) := by
 induction us with
 | nil => intro w xs p h _; exact h
 | cons u r ih =>
  intro w xs p h hl
  simp only [bi0] at hl
  exact ih (h.setCell (by omega) u) (by simp; omega)
theorem W6.setFrom {lo hi g : Nat} {a : World} (us : List Value) : ∀ {w : World} {p : Nat}, W6 lo hi a w → lo ≤ g → g < hi → W6 lo hi a (World.setFrom w g p us) := by
 induction us with
 | nil => intro w p h _ _; exact h
 | cons u r ih => intro w p h h1 h2; exact ih (h.setCell h1 h2 u) h1 h2
theorem aa0 {B g : Nat} {a : World} (us : List Value) : ∀ {w : World} {p : Nat}, Below B a w → B ≤ g → Below B a (World.setFrom w g p us) := by
 induction us with
 | nil => intro w p h _; exact h
 | cons u r ih => intro w p h h1; exact ih (h.setCell h1 u) h1
theorem I5.tight {w : World} {lo hi : Nat} {e : TypeId} {sz : Nat} {v : Value} {n : Nat} {xs : List Value} (h : I5 w lo hi e sz v n xs) :
  ∃ lo' hi', lo ≤ lo' ∧ hi' ≤ hi ∧ I5 w lo' hi' e sz v n xs ∧ ∀ g, lo' ≤ g → g < hi' → v.ownBlock = some g := by
 have hl := h.lt
 cases hv : v.ownBlock with
 | none =>
  refine ⟨max lo hi, hi, by omega, bf5 _, ⟨⟨h.1.1, ?_⟩, fun g hg => by rw [hv] at hg; cases hg⟩, fun g h1 h2 => by omega⟩
  rcases h.1.2 with hn | ⟨g, cap, cur, rfl, _⟩
  ·exact .inl hn
  ·cases hv
 | some g =>
  obtain ⟨l1, l2, l3⟩ := hl g hv
  refine ⟨g, g + 1, l1, l2, ⟨⟨h.1.1, ?_⟩, fun g' hg => by rw [hv] at hg; cases hg; omega⟩, fun g' h1 h2 => by rw [show g' = g by omega]⟩
  rcases h.1.2 with hn | ⟨g', cap, cur, rfl, r⟩
  ·exact .inl hn
  ·cases hv
   exact .inr ⟨_, cap, cur, rfl, bf5 _, r.2⟩
def ap9 (u v : Value) : Prop := ∀ g, u.ownBlock = some g → v.ownBlock ≠ some g
theorem ap9.symm {u v : Value} (h : ap9 u v) : ap9 v u := fun g h1 h2 => h g h2 h1
theorem aK6 {w w' : World} {lo hi lo' hi' : Nat} {e e' : TypeId} {sz sz' : Nat} {v v' : Value} {n n' : Nat} {xs xs' : List Value} (h : I5 w lo hi e sz v n xs) (h' : I5 w' lo' hi' e' sz' v' n' xs') (hd : hi ≤ lo' ∨ hi' ≤ lo) : ap9 v v' := by
 intro g h1 h2
 have := h.lt g h1
 have := h'.lt g h2
 omega
def P5 (w : World) (b : Nat) (cs : List Value) : Prop := ∃ T, w.heap[b]? = some (.cells cs.toArray T (0, 0))
theorem P5.lt {w : World} {b : Nat} {cs : List Value} (h : P5 w b cs) : b < w.heap.size := by
 obtain ⟨T, h⟩ := h; exact (Array.getElem?_eq_some_iff.1 h).1
theorem P5.cell {w : World} {b : Nat} {cs : List Value} (h : P5 w b cs) (j : Nat) : w.cell? ⟨b, j, none⟩ = cs[j]? := by
 obtain ⟨T, h⟩ := h; simp [World.cell?, h]
theorem P5.free {w : World} {b : Nat} {cs : List Value} (h : P5 w b cs) (j : Nat) : w.frozen? ⟨b, j, none⟩ = false := by
 obtain ⟨T, h⟩ := h; simp only [World.frozen?, h]; simp
theorem P5.below {w w' : World} {b B : Nat} {cs : List Value} (h : P5 w b cs) (hb : Below B w w') (hB : b < B) : P5 w' b cs := by
 obtain ⟨T, h⟩ := h; exact ⟨T, (hb.block b hB).trans h⟩
theorem P5.out {w w' : World} {b lo hi : Nat} {cs : List Value} (h : P5 w b cs) (hb : W6 lo hi w w') (hB : b < lo ∨ hi ≤ b) : P5 w' b cs := by
 have hlt := h.lt
 obtain ⟨T, h⟩ := h; exact ⟨T, (hb.block b hlt hB).trans h⟩
theorem P5.set {w : World} {b j : Nat} {cs : List Value} (h : P5 w b cs) (u : Value) : P5 (w.setCell ⟨b, j, none⟩ u) b (cs.set j u) := by
 obtain ⟨T, h⟩ := h
 refine ⟨T, ?_⟩
 simp only [World.setCell, Array.getElem?_modify]
 simp [h]
theorem P5.other {w : World} {b : Nat} {p : Addr} {cs : List Value} (h : P5 w b cs) (hp : b ≠ p.block) (u : Value) : P5 (w.setCell p u) b cs := by
 obtain ⟨T, h⟩ := h; exact ⟨T, (Below.heap_setCell _ _ _ _ hp).trans h⟩
theorem P5.new (w : World) (cs : List Value) (T : TypeId) : P5 (w.alloc (.cells cs.toArray T)) w.heap.size cs := ⟨T, heap_alloc_new w _⟩
theorem P5.alloc {w : World} {b : Nat} {cs : List Value} (h : P5 w b cs) (o : Obj) : P5 (w.alloc o) b cs := by
 have hlt := h.lt
 obtain ⟨T, h⟩ := h; exact ⟨T, (Below.heap_alloc w o b hlt).trans h⟩
theorem P5.drew {w : World} {b : Nat} {cs : List Value} (h : P5 w b cs) : P5 w.drew b cs := h
theorem W6.cell (w : World) (b j : Nat) (u : Value) : W6 b (b + 1) w (w.setCell ⟨b, j, none⟩ u) :=
 W6.setCell (p := ⟨b, j, none⟩) (W6.refl b (b + 1) w) (bf5 b) (Nat.lt_succ_self b) u
theorem I5.other {w : World} {lo hi : Nat} {e : TypeId} {sz : Nat} {v : Value} {n : Nat} {xs : List Value} (h : I5 w lo hi e sz v n xs) {b : Nat} (hb : b < lo ∨ hi ≤ b) (j : Nat) (u : Value) : I5 (w.setCell ⟨b, j, none⟩ u) lo hi e sz v n xs :=
 h.out (W6.cell w b j u) (by omega)
def _root_.Go.World.ext (w X : World) : World := { w with heap := w.heap ++ X.heap, drawn := X.drawn }
theorem C5 (w : World) (X : World) : Below w.heap.size w (w.ext X) :=
 ⟨rfl, rfl, rfl, by simp [World.ext], fun k hk => by simp only [World.ext]; rw [Array.getElem?_append_left hk]⟩
theorem ar9 {w w' : World} (h : Below w.heap.size w w') : ∃ X, w' = w.ext X := by
 refine ⟨{ w' with heap := w'.heap.extract w.heap.size w'.heap.size }, ?_⟩
 obtain ⟨h1, h2, h3, h4, h5⟩ := h
 have hh : w'.heap = w.heap ++ w'.heap.extract w.heap.size w'.heap.size := by
  apply Array.ext_getElem?
  intro i
  rcases bh7 i w.heap.size with hi | hi
  ·rw [Array.getElem?_append_left hi, h5 i hi]
  ·rw [Array.getElem?_append_right hi, Array.getElem?_extract]
   split
   ·rw [show w.heap.size + (i - w.heap.size) = i by omega]
   ·rename_i hn
    rw [Array.getElem?_eq_none]
    simp at hn
    omega
 cases w; cases w'
 simp only [World.ext] at *
 subst h1 h2 h3
 rw [← hh]
theorem t0 {w : World} {b o : Nat} {v : Value} (h : w.cell? ⟨b, o, none⟩ = some v) (X : World) : (w.ext X).cell? ⟨b, o, none⟩ = some v := by
 have hb : b < w.heap.size := World.block_lt_of_cell? w ⟨b, o, none⟩ h
 rw [(V9 (C5 w X)).1 b o hb]; exact h
theorem Calls.ext_of' {P : Program} {f : FuncId} {args : Array Value} {w : World} {X : World} {v : Value}
  (h : Calls P f args (w.ext X) fun e w' => e = .returned v ∧ Below (w.ext X).heap.size (w.ext X) w') : Calls P f args (w.ext X) fun e w'' => e = .returned v ∧ ∃ Y, w'' = w.ext Y :=
 h.mono fun _ _ ⟨he, hb⟩ => ⟨he, ar9 ((C5 w X).trans (hb.mono (C5 w X).size))⟩
theorem B7 {P : Program} {id : Nat} {Q : Exit → Act → World → Prop} {a : Act} {w : World} {l : List Oper} (hm : P.follows .mixedOrders = true) (hB : Region.lexB .any l.toArray = true)
  (h : wpQuiet P l.toArray (fun w' => ∃ X, w' = w.ext X) (fun a' => ∀ w', (∃ X, w' = w.ext X) → Q .normal a' w') l a) : (Code.region id l.toArray true).wp P Q a w :=
 wp_region_quiet (C := fun w' => ∃ X, w' = w.ext X) hm hB (ar9 (w' := w.drew) (Below.refl _ _).drew) (by simpa using h)
theorem ar7 {P : Program} {f : FuncId} {fn : Func} {c : Code} (hf : P.funcs[f]? = some fn) (hn : (fn.name == "runtime.NumGoroutine") = false) (hb : fn.body = some c) :
  ∀ args w, (callFunc f args).run P w = .ok (.enter f args) w := by
 intro args w
 have h1 : fn.name ≠ "runtime.NumGoroutine" := by simpa using hn
 simp [callFunc, hf, h1, hb, mark]
end Go.Proofs.Ytgmhmijcnlfmfaa

namespace Go.Proofs.Ytgmhmijcnlfmfaa
theorem J3 {α : Type} (l : List α) (k : Nat) (h : k < l.length) : l.take (k + 1) = l.take k ++ [l[k]] := by
 rw [List.take_succ_eq_append_getElem h]
theorem R5 {α : Type} (p : α → Bool) (l : List α) (k : Nat) (h : k < l.length) : (l.take (k + 1)).all p = ((l.take k).all p && p l[k]) := by
 rw [J3 l k h, List.all_append]; simp
theorem aj2 {α : Type} {p : α → Bool} {l : List α} {k : Nat} (h : k < l.length) (hp : p l[k] = false) : l.all p = false := by
 rw [List.all_eq_false]; exact ⟨l[k], bg4 h, by simp [hp]⟩
structure J0 where
 op : Int
 a : Int
 b : Int
 c : Int
 d : Int
def J0.l (x : J0) : List Int := [x.op, x.a, x.b, x.c, x.d]
def R3 : List J0 → List Int
 | [] => []
 | x :: r => x.op :: x.a :: x.b :: x.c :: x.d :: R3 r
theorem aV3 (l : List J0) : (R3 l).length = l.length * 5 := by
 induction l with
 | nil => rfl
 | cons x r ih => simp [R3, ih]; omega
theorem J0.ext' {x y : J0} (h : x.l = y.l) : x = y := by
 cases x; cases y; simp [J0.l] at h; simp [h]
theorem aA4 : ∀ {l m : List J0}, R3 l = R3 m → l = m
 | [], [], _ => rfl
 | [], _ :: _, h => by simp [R3] at h
 | _ :: _, [], h => by simp [R3] at h
 | x :: r, y :: s, h => by
  simp only [R3, List.cons.injEq] at h
  obtain ⟨h1, h2, h3, h4, h5, h6⟩ := h
  rw [aA4 h6, J0.ext' (x := x) (y := y) (by simp [J0.l, h1, h2, h3, h4, h5])]
theorem aV4 (l : List J0) (i : Nat) (hi : i < l.length) : (R3 l)[i * 5]? = some l[i].op ∧ (R3 l)[i * 5 + 1]? = some l[i].a ∧ (R3 l)[i * 5 + 2]? = some l[i].b ∧ (R3 l)[i * 5 + 3]? = some l[i].c ∧ (R3 l)[i * 5 + 4]? = some l[i].d := by
 induction l generalizing i with
 | nil => simp at hi
 | cons x r ih =>
  cases i with
  | zero => simp [R3]
  | succ i =>
   rw [bg9]
   have := ih i (by simpa using hi)
   simpa [R3, Nat.add_assoc] using this
structure E4 where
 vars : List Int
 arrays : List Int
 list : List J0
def E4.size (c : E4) : Nat := c.vars.length + c.arrays.length + c.list.length
def E4.same (c d : E4) : Bool := decide (c.vars = d.vars) && decide (c.arrays = d.arrays) && decide (R3 c.list = R3 d.list)
theorem E4.same_eq {c d : E4} : c.same d = true ↔ c = d := by
 cases c; cases d
 simp only [E4.same, bf0, decide_eq_true_eq, E4.mk.injEq]
 constructor
 ·rintro ⟨⟨rfl, rfl⟩, h⟩; exact ⟨rfl, rfl, aA4 h⟩
 ·rintro ⟨rfl, rfl, rfl⟩; exact ⟨⟨rfl, rfl⟩, rfl⟩
def F5 (l : Int) : Bool := decide (0 ≤ l) && decide (l ≤ 3)
def H7 (vars arrays : List Int) : Bool := vars.all F5 && arrays.all F5 && decide (1 ≤ vars.length) && decide (vars.length ≤ 12) && decide (arrays.length ≤ 2)
def aZ8 (c : E4) (kd : UInt8) (n : Int) : Bool :=
 if kd = 114 then decide (0 ≤ n) && decide (n < 14)
 else if kd = 99 then decide (0 ≤ n) && decide (n ≤ 255)
 else if kd = 118 then decide (0 ≤ n) && decide (n < c.vars.length)
 else if kd = 97 then decide (0 ≤ n) && decide (n < c.arrays.length)
 else if kd = 111 then decide (4 ≤ n) && decide (n ≤ 10)
 else decide (0 ≤ n) && decide (n < c.list.length)
def af9 (op : Int) : List UInt8 :=
 if op = 1 then [114, 99] else if op = 2 then [114, 118] else if op = 3 then [118, 114] else if op = 4 then [114, 97, 114] else if op = 5 then [97, 114, 114]
 else if op = 6 then [114, 111, 114, 114] else if op = 7 then [114, 114, 114, 114] else if op = 8 then [116] else if op = 9 then [114, 116] else if op = 10 then [114, 116]
 else if op = 11 then [114] else []
def au1 (c : E4) (kinds : List UInt8) (k : Nat) (n : Int) : Bool :=
 match kinds[k]? with
 | some kd => aZ8 c kd n
 | none => decide (n = 0)
def a47 (c : E4) (x : J0) : Bool :=
 decide (1 ≤ x.op) && decide (x.op ≤ 13) && (au1 c (af9 x.op) 0 x.a && au1 c (af9 x.op) 1 x.b && au1 c (af9 x.op) 2 x.c && au1 c (af9 x.op) 3 x.d)
def aU8 (c : E4) : Bool := match c.list.getLast? with | some x => decide (x.op = 13) || decide (x.op = 8) | none => false
def aw2 (c : E4) : Bool := H7 c.vars c.arrays && decide (1 ≤ c.list.length) && decide (c.list.length ≤ 400) && c.list.all (a47 c) && aU8 c
def ba1 (x : J0) (i : Int) : List Int := if x.op = 13 then [] else if x.op = 8 then [x.a] else if x.op = 9 ∨ x.op = 10 then [i + 1, x.b] else [i + 1]
def nx (c : E4) (t : Int) : List Int := match c.list[t.toNat]? with | some x => ba1 x t | none => []
theorem ae2 {c : E4} (h : aw2 c = true) : H7 c.vars c.arrays = true ∧ 1 ≤ c.list.length ∧ c.list.length ≤ 400 ∧ (∀ (i : Nat) (hi : i < c.list.length), a47 c c.list[i] = true) ∧ aU8 c = true := by
 unfold aw2 at h
 simp only [bf0, decide_eq_true_eq, bf9] at h
 obtain ⟨⟨⟨⟨h1, h2⟩, h3⟩, h4⟩, h5⟩ := h
 exact ⟨h1, h2, h3, fun i hi => h4 _ (bg4 hi), h5⟩
inductive Rc (c : E4) : Int → Prop
 | zero : Rc c 0
 | step {i t : Int} : Rc c i → t ∈ nx c i → Rc c t
noncomputable def bd5 (c : E4) : List Bool := (bg0 c.list.length).map fun (j : Nat) => @decide (Rc c (j : Int)) (Classical.propDecidable _)
theorem ar8 {bs : List Bool} {k : Nat} (h : bs[k]? = some false) : (bs.set k true).count false + 1 = bs.count false := by
 induction bs generalizing k with
 | nil => simp at h
 | cons b r ih =>
  cases k with
  | zero => simp at h; subst h; simp
  | succ k =>
   simp at h
   have := ih h
   simp only [List.set_cons_succ, List.count_cons]
   omega
theorem as7 {bs : List Bool} {k j : Nat} (h : (bs.set k true)[j]? = some true) : j = k ∨ bs[j]? = some true := by
 rw [List.getElem?_set] at h
 split at h
 ·rename_i e; exact .inl e.symm
 ·exact .inr h
theorem ay1 {bs : List Bool} {k : Nat} (h : k < bs.length) : (bs.set k true)[k]? = some true := by simp [h]
structure bc2 (c : E4) (qs : List Int) (bs : List Bool) : Prop where
 len : bs.length = c.list.length
 cnt : qs.length + bs.count false = c.list.length
 q : ∀ t ∈ qs, 0 ≤ t ∧ t < c.list.length ∧ Rc c t
 sound : ∀ j : Nat, bs[j]? = some true → Rc c j
 inq : ∀ j : Nat, bs[j]? = some true → (j : Int) ∈ qs
 zero : bs[0]? = some true
theorem bc2.start {c : E4} (hc : aw2 c = true) : bc2 c [0] ((bh8 c.list.length false).set 0 true) := by
 have hn := (ae2 hc).2.1
 have hone : ∀ j : Nat, ((bh8 c.list.length false).set 0 true)[j]? = some true → j = 0 := by
  intro j h
  rcases as7 h with h | h
  ·exact h
  ·rw [List.getElem?_replicate] at h; split at h <;> simp at h
 refine ⟨by simp, ?_, ?_, ?_, ?_, ?_⟩
 ·have := ar8 (bs := bh8 c.list.length false) (k := 0) (by rw [List.getElem?_replicate, if_pos (by omega)])
  simp at this ⊢
  omega
 ·intro t ht
  simp at ht; subst ht
  exact ⟨by omega, by omega, .zero⟩
 ·intro j h; rw [hone j h]; exact .zero
 ·intro j h; rw [hone j h]; simp
 ·exact ay1 (by simp; omega)
structure aX4 (c : E4) (ls : List Int) (bs : List Bool) : Prop where
 len : bs.length = c.list.length
 cnt : ls.length + 2 * bs.count false ≤ 2 * c.list.length + 1
 l : ∀ t ∈ ls, 0 ≤ t ∧ t < c.list.length ∧ Rc c t
 sound : ∀ j : Nat, bs[j]? = some true → Rc c j
 zero : bs[0]? = some true ∨ (0 : Int) ∈ ls
 clos : ∀ j : Nat, bs[j]? = some true → ∀ t ∈ nx c j, bs[t.toNat]? = some true ∨ t ∈ ls
theorem aX4.start {c : E4} (hc : aw2 c = true) : aX4 c [0] (bh8 c.list.length false) := by
 have hn := (ae2 hc).2.1
 refine ⟨by simp, by simp; omega, ?_, ?_, .inr (by simp), ?_⟩
 ·intro t ht
  simp at ht; subst ht
  exact ⟨by omega, by omega, .zero⟩
 ·intro j h; rw [List.getElem?_replicate] at h; split at h <;> simp at h
 ·intro j h; rw [List.getElem?_replicate] at h; split at h <;> simp at h
theorem aX4.skip {c : E4} {ls : List Int} {i : Int} {bs : List Bool} (h : aX4 c (ls ++ [i]) bs) (hb : bs[i.toNat]? = some true) : aX4 c ls bs := by
 refine ⟨h.len, by have := h.cnt; simp at this; omega, fun t ht => h.l t (List.mem_append_left _ ht), h.sound, ?_, ?_⟩
 ·rcases h.zero with h0 | h0
  ·exact .inl h0
  ·rcases bg8.1 h0 with h0 | h0
   ·exact .inr h0
   ·simp at h0; subst h0; exact .inl hb
 ·intro j hj t ht
  rcases h.clos j hj t ht with h1 | h1
  ·exact .inl h1
  ·rcases bg8.1 h1 with h1 | h1
   ·exact .inr h1
   ·simp at h1; subst h1; exact .inl hb
end Go.Proofs.Ytgmhmijcnlfmfaa

namespace Go.Proofs.Ytgmhmijcnlfmfaa
open Go Go.RowKit
section
variable {P : Program} {md : Region.Mode} {C : World → Prop}
theorem ae1 {listed : Array Bool} {i : Nat} (h : listed.getD i true = false) : (listed.setIfInBounds i true).toList.count false + 1 = listed.toList.count false := by
 rw [Array.toList_setIfInBounds]
 refine ar8 ?_
 rcases bh7 i listed.size with h' | h'
 ·simp [h'] at h ⊢; exact h
 ·simp [Array.getElem?_eq_none h'] at h
end
abbrev ints (l : List Int) : List Value := l.map (Value.int .i64)
theorem T2 (l : List Int) (k : Nat) (h : k < l.length) : (ints l)[k]? = some (.int .i64 l[k]) := by simp [ints, h]
theorem ba6 : (Try.prog.info? 3).map (fun i => (i.zero, i.size, i.bytes)) = some (some (.int .i64 0), 1, 8) := by kernel_rfl
theorem an3 (v1 v2 : Value) (xs ys : List Int) (w : World) (h1 : K5 w v1 xs.length 1 (ints xs)) (h2 : K5 w v2 ys.length 1 (ints ys)) :
  Calls Try.prog 119 #[v1, v2] w fun e w' => e = .returned (.bool (decide (xs = ys))) ∧ ∃ n, w' = w.drewN n := by
 obtain ⟨a1, c1, rfl, -, hm1, -, hc1⟩ := h1.open1
 obtain ⟨a2, c2, rfl, -, hm2, -, hc2⟩ := h2.open1
 by_cases hl : xs.length = ys.length
 ·rw [← hl] at hc2 ⊢
  clear h1 h2 hm2
  go_enter Try.func119, Try.ntmps119
  go_wp2
  go_loopw [5] (fun i wr => ∃ k : Nat, k ≤ xs.length ∧ i = .int .i64 k ∧ xs.take k = ys.take k ∧ ∃ n, wr = w.drewN n) (fun i _ => xs.length - (intOf i).toNat)
  case atStart => exact ⟨0, bg3 _, rfl, rfl, 0, rfl⟩
  case round =>
   obtain ⟨k, hk, rfl, ht, nd, rfl⟩ := hrel
   have HT : Hid (xs.take k = ys.take k) := ht
   clear ht
   have HL : Hid (xs.length = ys.length) := hl
   clear hl
   by_cases hlt : k < xs.length
   ·have hlt2 : k < ys.length := by have := HL.out; omega
    obtain ⟨b1, o1, rfl, hb1, hx⟩ := hc1 k hlt
    obtain ⟨b2, o2, rfl, hb2, hy⟩ := hc2 k hlt
    rw [T2 _ _ hlt] at hx
    rw [T2 _ _ hlt2] at hy
    clear hc1 hc2
    go_wp2
    go_quiet (fail)
    go_wp2
    ·rename_i hd
     go_ret
     exact ⟨b9 (by symm; simp; intro h; subst h; simp at hd), _, by first | rfl | exact World.drewN_drewN _ _ _⟩
    ·rename_i hd
     refine ⟨⟨k + 1, by omega, by go_num, T9 HT.out hlt hlt2 (by simpa using hd), _, by first | rfl | exact World.drewN_drewN _ _ _⟩, by simp [intOf]; omega⟩
   ·go_wp2
    go_ret
    exact ⟨b9 (by symm; simp; exact M4 HT.out (by omega) (by have := HL.out; omega)), _, rfl⟩
 ·have hne : ((xs.length : Int) == (ys.length : Int)) = false := by simp; omega
  clear hc1 hc2
  go_enter Try.func119, Try.ntmps119
  go_wp2
  go_ret
  exact ⟨b9 (by symm; simp; intro h; exact hl (by rw [h])), 0, rfl⟩
theorem aa6 (v : Value) (n : Nat) (xs : List Value) (m : Int) (w : World) (h : K5 w v n 1 xs) (hm : 0 ≤ m) (hm2 : m ≤ 1048576) :
  Calls Try.prog 108 #[v, .int .i64 m] w fun e w' => e = .returned (.int .i64 (m8 m n)) ∧ w = w' := by
 obtain ⟨a1, c1, rfl, -, hm1, -, hc1⟩ := h.open1
 clear hc1 h
 by_cases hlt : m < n
 all_goals
  go_enter Try.func108, Try.ntmps108
  go_wp2
  go_ret
  exact ⟨s6 (by unfold m8; split <;> omega), rfl⟩
theorem T8 (v : Value) (xs : List Int) (w : World) (h : K5 w v xs.length 1 (ints xs)) (hb : xs.length ≤ 17592186044416) :
  Calls Try.prog 113 #[v] w fun e w' => ∃ u, e = .returned u ∧ I5 w' w.heap.size w'.heap.size 3 1 u xs.length (ints xs) ∧ Below w.heap.size w w' := by
 obtain ⟨a1, c1, rfl, -, hm1, -, hc1⟩ := h.open1
 clear h
 have hmk := X7 (P := Try.prog) (t := 23) Try.underlying23 ba6 rfl (by omega) xs.length (by omega) hm1
 have hown := X1 w (Value.int .i64 0).cells.toList xs.length 1 3 rfl hm1
 go_enter Try.func113, Try.ntmps113
 go_wp2
 clear hmk
 go_loopw [4] (fun i wr => ∃ (k : Nat) (ys : List Value), k ≤ xs.length ∧ i = .int .i64 k ∧ I5 wr w.heap.size (w.heap.size + 1) 3 1 (.slice (some ⟨w.heap.size, 0, none⟩) xs.length xs.length) xs.length ys ∧ ys.take k = (ints xs).take k ∧ Below w.heap.size w wr) (fun i _ => xs.length - (intOf i).toNat)
 case atStart => exact ⟨0, _, bg3 _, rfl, hown, rfl, (Below.refl _ _).alloc (bf5 _) _⟩
 case round =>
  obtain ⟨k, ys, hk, rfl, ho, ht, hbw⟩ := hrel
  have HT : Hid (ys.take k = (ints xs).take k) := ht
  clear ht hown
  by_cases hlt : k < xs.length
  ·obtain ⟨b1, o1, rfl, hb1, hx⟩ := hc1 k hlt
   rw [T2 _ _ hlt, ← (V9 hbw).1 _ _ hb1] at hx
   have hyl : ys.length = xs.length := by rw [ho.1.1, Nat.mul_one]
   obtain ⟨g, cap, hv, hg1, hg2, hg3, hf, u0, hc⟩ := ho.at (j := k) (by omega)
   cases hv
   have HY : Hid (ys.length = xs.length) := hyl
   clear hc1 hyl
   go_wp2
   go_roundw
   case rel =>
    refine ⟨k + 1, ys.set k (.int .i64 xs[k]), by omega, by go_num, ho.setCell (by have := HY.out; omega) _, ?_, hbw.setCell (bf5 _) _⟩
    rw [L8 _ _ _ (by have := HY.out; omega), HT.out, s8 (ints xs) k (by simpa using hlt)]
    simp
   case measure => simp [intOf]; omega
  ·go_wp2
   go_ret
   have he : ys = ints xs := M4 HT.out (by rw [ho.1.1]; omega) (by simp; omega)
   subst he
   exact ⟨_, rfl, ho.wide (bf5 _) (by have := ho.lt _ rfl; omega), hbw⟩
def H6 (K n : Nat) : List Int := (bg0 n).map fun (j : Nat) => ((K : Int) + (j : Int))
theorem al9 (K n : Nat) : (H6 K n).length = n := by simp [H6]
theorem au6 (v : Value) (xs : List Int) (K lo hi : Nat) (w : World) (h : I5 w lo hi 3 1 v xs.length (ints xs)) (hK : K + xs.length ≤ 9000000000000000000) :
  Calls Try.prog 122 #[v, .int .i64 K] w fun e w' => e = .returned (.int .i64 (K + xs.length : Nat)) ∧ I5 w' lo hi 3 1 v xs.length (ints (H6 K xs.length)) ∧ W6 lo hi w w' := by
 obtain ⟨a1, c1, rfl, -, hm1, -, -⟩ := h.row.open1
 go_enter Try.func122, Try.ntmps122
 go_wp2
 go_loopw [1, 5] (fun q i wr => ∃ (k : Nat) (ys : List Value), k ≤ xs.length ∧ q = .int .i64 ((K + k : Nat) : Int) ∧ i = .int .i64 k ∧ I5 wr lo hi 3 1 (.slice a1 xs.length c1) xs.length ys ∧ ys.take k = (ints (H6 K xs.length)).take k ∧ W6 lo hi w wr) (fun _ i _ => xs.length - (intOf i).toNat)
 case atStart => exact ⟨0, _, bg3 _, rfl, rfl, h, rfl, W6.refl _ _ _⟩
 case round =>
  obtain ⟨k, ys, hk, rfl, rfl, ho, ht, hbw⟩ := hrel
  have HT : Hid (ys.take k = (ints (H6 K xs.length)).take k) := ht
  clear ht h
  by_cases hlt : k < xs.length
  ·have hyl : ys.length = xs.length := by rw [ho.1.1, Nat.mul_one]
   obtain ⟨g, cap, hv, hg1, hg2, hg3, hf, u0, hc⟩ := ho.at (j := k) (by omega)
   cases hv
   have HY : Hid (ys.length = xs.length) := hyl
   clear hyl
   go_wp2
   go_roundw
   case rel =>
    refine ⟨k + 1, _, by omega, by go_num, by go_num, ho.setCell (by have := HY.out; omega) _, ?_, hbw.setCell hg1 hg2 _⟩
    rw [L8 _ _ _ (by have := HY.out; omega), HT.out, s8 (ints _) k (by simpa [H6] using hlt)]
    simp [H6]
   case measure => simp [intOf]; omega
  ·go_wp2
   go_ret
   obtain rfl : k = xs.length := by omega
   have he : ys = ints (H6 K xs.length) := M4 HT.out (by rw [ho.1.1]; omega) (by simp [H6])
   subst he
   exact ⟨rfl, ho, hbw⟩
abbrev a86 (w : World) (v : Value) (l : List J0) : Prop := K5 w v l.length 5 (ints (R3 l))
abbrev J0.v (x : J0) : Value := .agg #[.int .i64 x.op, .int .i64 x.a, .int .i64 x.b, .int .i64 x.c, .int .i64 x.d]
def aj8 (w : World) (v : Value) (c : E4) : Prop :=
 ∃ v1 v2 v3, v = .agg #[v1, v2, v3] ∧ K5 w v1 c.vars.length 1 (ints c.vars) ∧ K5 w v2 c.arrays.length 1 (ints c.arrays) ∧ a86 w v3 c.list
def K4 (w : World) (lo hi : Nat) (v : Value) (c : E4) : Prop :=
 ∃ v1 v2 v3, v = .agg #[v1, v2, v3] ∧ I5 w lo hi 3 1 v1 c.vars.length (ints c.vars) ∧ I5 w lo hi 3 1 v2 c.arrays.length (ints c.arrays) ∧ I5 w lo hi 166 5 v3 c.list.length (ints (R3 c.list)) ∧
  ap9 v1 v2 ∧ ap9 v1 v3 ∧ ap9 v2 v3
theorem aj8.below {w w' : World} {v : Value} {c : E4} (h : aj8 w v c) (hb : Below w.heap.size w w') : aj8 w' v c := by
 obtain ⟨v1, v2, v3, rfl, h1, h2, h3⟩ := h
 exact ⟨v1, v2, v3, rfl, h1.below hb, h2.below hb, h3.below hb⟩
theorem K4.row {w : World} {lo hi : Nat} {v : Value} {c : E4} (h : K4 w lo hi v c) : aj8 w v c := by
 obtain ⟨v1, v2, v3, rfl, h1, h2, h3, _⟩ := h
 exact ⟨v1, v2, v3, rfl, h1.row, h2.row, h3.row⟩
theorem K4.keep {w w' : World} {lo hi B : Nat} {v : Value} {c : E4} (h : K4 w lo hi v c) (hb : Below B w w') (hB : hi ≤ B) : K4 w' lo hi v c := by
 obtain ⟨v1, v2, v3, rfl, h1, h2, h3, hd⟩ := h
 exact ⟨v1, v2, v3, rfl, h1.keep hb hB, h2.keep hb hB, h3.keep hb hB, hd⟩
theorem K4.out {w w' : World} {lo hi lo' hi' : Nat} {v : Value} {c : E4} (h : K4 w lo hi v c) (hb : W6 lo' hi' w w') (hB : hi ≤ lo' ∨ hi' ≤ lo) : K4 w' lo hi v c := by
 obtain ⟨v1, v2, v3, rfl, h1, h2, h3, hd⟩ := h
 exact ⟨v1, v2, v3, rfl, h1.out hb hB, h2.out hb hB, h3.out hb hB, hd⟩
theorem K4.wide {w : World} {lo hi lo' hi' : Nat} {v : Value} {c : E4} (h : K4 w lo hi v c) (h1 : lo' ≤ lo) (h2 : hi ≤ hi') : K4 w lo' hi' v c := by
 obtain ⟨v1, v2, v3, rfl, g1, g2, g3, hd⟩ := h
 exact ⟨v1, v2, v3, rfl, g1.wide h1 h2, g2.wide h1 h2, g3.wide h1 h2, hd⟩
def ah1 (w : World) (v : Value) (K nv na nl : Nat) : Prop :=
 ∃ v1 v2 v3, v = .agg #[v1, v2, v3] ∧ K5 w v1 nv 1 (ints (H6 K nv)) ∧ K5 w v2 na 1 (ints (H6 (K + nv) na)) ∧ K5 w v3 nl 5 (ints (H6 (K + nv + na) (nl * 5)))
theorem ah1.below {w w' : World} {v : Value} {K nv na nl : Nat} (h : ah1 w v K nv na nl) (hb : Below w.heap.size w w') : ah1 w' v K nv na nl := by
 obtain ⟨v1, v2, v3, rfl, h1, h2, h3⟩ := h
 exact ⟨v1, v2, v3, rfl, h1.below hb, h2.below hb, h3.below hb⟩
theorem ay5 {P : Program} {w : World} {lo : Nat} {t ty e : TypeId} {i : TypeInfo} {size : Nat} (ht : P.underlying t = some (.slice e)) (hi : P.info? e = some i)
  {v : Value} {n : Nat} {xs : List Value} (hown : w.ownsRow lo e size v n xs) (c : Nat) : (Builtin.append_ #[t, t] ty #[v, .slice none 0 c]).run P w = .ok v w := by
 obtain ⟨_, h⟩ := hown
 rcases h with ⟨rfl, rfl⟩ | ⟨g, cap, cur, rfl, _, _, hnc, _⟩
 ·simp [Builtin.append_, run_underlying ht, sizeOf, typeInfo, hi, Builtin.lenOf, Builtin.firstCells]
 ·simp [Builtin.append_, run_underlying ht, sizeOf, typeInfo, hi, Builtin.lenOf, Builtin.firstCells, hnc, storeCells]
theorem Y8 {w : World} {lo : Nat} {e : TypeId} {sz : Nat} {v : Value} {n : Nat} {xs : List Value} (h : w.ownsRow lo e sz v n xs) : ∃ a k, v = .slice a n k := by
 rcases h.2 with ⟨rfl, rfl⟩ | ⟨g, cap, cur, rfl, _⟩
 ·exact ⟨_, _, rfl⟩
 ·exact ⟨_, _, rfl⟩
theorem aj1 {P : Program} {w : World} {lo : Nat} {t ty e : TypeId} {z : Value} {size bytes : Nat} (ht : P.underlying t = some (.slice e)) (hi : (P.info? e).map (fun i => (i.zero, i.size, i.bytes)) = some (some z, size, bytes))
  (hzs : z.cells.size = size) (hsz : 0 < size) {v : Value} {n : Nat} {xs : List Value} (hown : w.ownsRow lo e size v n xs) {u : Value} {m : Nat} {news : List Value} (hr : K5 w u m size news) (h1 : ∀ u ∈ news, u.oneCell' = true)
  (h63 : n + m ≤ 9223372036854775807) (hbytes : (n + m) * bytes ≤ 140737488355328) (hbase : lo ≤ w.heap.size) :
  ∃ a' k' w', (Builtin.append_ #[t, t] ty #[v, u]).run P w = .ok (.slice a' (n + m) k') w' ∧ w'.ownsRow lo e size (.slice a' (n + m) k') (n + m) (xs ++ news) ∧ Below lo w w' ∧ w.grownBy w' v.ownBlock ∧ (∀ g, (Value.slice a' (n + m) k').ownBlock = some g → v.ownBlock = some g ∨ w.heap.size ≤ g) := by
 obtain ⟨i, g1, g2, g3, g4⟩ := info_parts hi
 obtain ⟨hl, A, c, rfl, hmc, hc, hA⟩ := hr
 have below_of : ∀ {w' : World}, w.grownBy w' v.ownBlock → Below lo w w' := fun {w'} hg => by
  refine ⟨hg.os, hg.tape, hg.output, hg.size, fun k hk => hg.block k (by omega) fun he => ?_⟩
  have := hown.lt k he.symm
  omega
 rcases A with _ | a
 ·have hm : m = 0 := by
   rcases Nat.eq_zero_or_pos m with h0 | h0
   ·exact h0
   ·obtain ⟨_, _, he, _⟩ := hA h0; cases he
  subst hm
  have hn : news = [] := List.eq_nil_of_length_eq_zero (by simpa using hl)
  subst hn
  obtain ⟨a', k', rfl⟩ := Y8 hown
  exact ⟨a', k', w, ay5 ht g1 hown c, by simpa using hown, Below.refl _ _, ⟨rfl, rfl, rfl, bf5 _, fun _ _ _ => rfl⟩, fun g hg => .inl hg⟩
 ·have hcells : ∀ j u, news[j]? = some u → w.cell? (a.add j) = some u := by
   intro j u hu
   have h0 : 0 < m := by
    rcases Nat.eq_zero_or_pos m with h0 | h0
    ·subst h0
     have hn : news = [] := List.eq_nil_of_length_eq_zero (by simpa using hl)
     subst hn; simp at hu
    ·exact h0
   obtain ⟨b, off, he, hb, hx⟩ := hA h0
   cases he
   have hadd : (⟨b, off, none⟩ : Addr).add j = ⟨b, off + j, none⟩ := by unfold Addr.add; split <;> simp_all
   rw [hadd]
   exact hx j u hu
  obtain ⟨v', w', hrun, h2, h3, _, h5⟩ := run_append_own_at (P := P) w lo t ty e i z size bytes ht g1 g2 g3 g4 hzs hsz v n xs hown a m c news hl hcells h1 (by unfold maxLen; omega) hbytes hbase
  obtain ⟨a', k', rfl⟩ := Y8 h2
  exact ⟨a', k', w', hrun, h2, below_of h3, h3, fun g hg => h5.elim (fun h => .inl (h ▸ hg)) fun h => .inr (by rw [h] at hg; cases hg; exact bf5 _)⟩
section
variable {P : Program}
theorem aL3 {x : Oper} {a : Act} {w : World} {K : Act → World → Prop} {Q Q0 : Exit → Act → World → Prop} (h0 : ∀ e a w, Q0 e a w → e = .normal) (h : x.wp P a w K Q0) : x.wp P a w K Q := by
 unfold Oper.wp at *
 generalize (execOp a.eval x).run P w = r at *
 cases r with
 | ok n w' =>
  cases n <;> simp only [Oper.upon] at h ⊢ <;>
   first
    | exact h
    | exact Calls.mono h (fun e w'' he => by
      cases e
      ·exact he
      ·exact absurd (h0 _ _ _ he) (by simp)
      ·obtain ⟨a, w, hq⟩ := he; exact absurd (h0 _ _ _ hq) (by simp))
 | halt y w' =>
  cases y <;> simp only [Oper.upon] at h ⊢ <;> first | exact h | exact absurd (h0 _ _ _ h) (by simp)
end
section
variable {P : Program}
structure be8 (mk : (Nat → Value) → Act) (C : World → Prop) (R : Nat → Value → World → Prop) (n : Nat) (listed : Array Bool) (f : Nat → Value) (a : Act) (w : World) : Prop where
 act : a = mk f
 cls : C w
 val : ∀ i, i < n → listed.getD i false = true → R i (f i) w
end
def I8 (φ φ' : Nat → Prop) (w w' : World) : Prop := w.heap.size ≤ w'.heap.size ∧ ∀ b, b < w.heap.size → φ b → φ' b ∧ w'.heap[b]? = w.heap[b]?
def V2 (R : World → (Nat → Prop) → Prop) : Prop := ∀ w w' φ φ', I8 φ φ' w w' → R w φ → R w' φ'
theorem I8.below {φ : Nat → Prop} {w w' : World} (h : Below w.heap.size w w') : I8 φ φ w w' := ⟨h.size, fun b hb hf => ⟨hf, h.block b hb⟩⟩
theorem I8.mono {φ φ' : Nat → Prop} {w : World} (h : ∀ b, b < w.heap.size → φ b → φ' b) : I8 φ φ' w w := ⟨bf5 _, fun b hb hf => ⟨h b hb hf, rfl⟩⟩
theorem I8.cell {φ φ' : Nat → Prop} {w w' : World} (h : I8 φ φ' w w') {b o : Nat} (hb : b < w.heap.size) (hf : φ b) : w'.cell? ⟨b, o, none⟩ = w.cell? ⟨b, o, none⟩ := by
 simp only [World.cell?, (h.2 b hb hf).2]
def B2 (w : World) (φ : Nat → Prop) (v : Value) (n sz : Nat) (xs : List Value) : Prop :=
 xs.length = n * sz ∧ ∃ a cap, v = .slice a n cap ∧ n ≤ cap ∧ cap ≤ maxLen ∧
  (0 < n → ∃ b off, a = some ⟨b, off, none⟩ ∧ b < w.heap.size ∧ φ b ∧ ∀ j u, xs[j]? = some u → w.cell? ⟨b, off + j, none⟩ = some u)
theorem B2.nice (v : Value) (n sz : Nat) (xs : List Value) : V2 fun w φ => B2 w φ v n sz xs := by
 rintro w w' φ φ' ha ⟨hl, a, cap, rfl, h1, h2, h3⟩
 refine ⟨hl, a, cap, rfl, h1, h2, fun hn => ?_⟩
 obtain ⟨b, off, rfl, hb, hf, hc⟩ := h3 hn
 exact ⟨b, off, rfl, bg6 hb ha.1, (ha.2 b hb hf).1, fun j u hj => (ha.cell hb hf).trans (hc j u hj)⟩
theorem B2.row {w : World} {φ : Nat → Prop} {v : Value} {n sz : Nat} {xs : List Value} (h : B2 w φ v n sz xs) : K5 w v n sz xs := by
 obtain ⟨hl, a, cap, rfl, h1, h2, h3⟩ := h
 refine ⟨hl, a, cap, rfl, h1, h2, fun hn => ?_⟩
 obtain ⟨b, off, rfl, hb, _, hc⟩ := h3 hn
 exact ⟨b, off, rfl, hb, hc⟩
theorem K5.rowF {w : World} {v : Value} {n sz : Nat} {xs : List Value} (h : K5 w v n sz xs) {φ : Nat → Prop} (hf : ∀ b, b < w.heap.size → φ b) : B2 w φ v n sz xs := by
 obtain ⟨hl, a, cap, rfl, h1, h2, h3⟩ := h
 refine ⟨hl, a, cap, rfl, h1, h2, fun hn => ?_⟩
 obtain ⟨b, off, rfl, hb, hc⟩ := h3 hn
 exact ⟨b, off, rfl, hb, hf b hb, hc⟩
theorem B2.nil (w : World) (φ : Nat → Prop) (sz : Nat) : B2 w φ (.slice none 0 0) 0 sz [] := ⟨by simp, none, 0, rfl, bf5 _, by unfold maxLen; omega, fun h => absurd h (by omega)⟩
theorem D5 {w : World} {lo : Nat} {e : TypeId} {sz : Nat} {v : Value} {n : Nat} {xs : List Value} (h : w.ownsRow lo e sz v n xs) {φ : Nat → Prop} (hf : ∀ g, v.ownBlock = some g → φ g) : B2 w φ v n sz xs := by
 obtain ⟨hl, a, cap, hv, h1, h2, h3⟩ := M9 h
 refine ⟨hl, a, cap, hv, h1, h2, fun hn => ?_⟩
 obtain ⟨b, off, he, hb, hc⟩ := h3 hn
 refine ⟨b, off, he, hb, ?_, hc⟩
 rcases h.2 with ⟨hv', h0⟩ | ⟨g, cap', cur, hv', _⟩
 ·omega
 ·rw [hv'] at hv
  cases hv
  cases he
  exact hf _ (by rw [hv']; rfl)
inductive N2 where
 | box (b : Nat) (cs : List Value)
 | row (e : TypeId) (sz : Nat) (v : Value) (n : Nat) (xs : List Value)
 | dat (R : World → (Nat → Prop) → Prop)
 | own (S : Nat → Prop) (R : World → Prop)
def N2.blk : N2 → Nat → Prop
 | .box b _ => fun g => g = b
 | .row _ _ v _ _ => fun g => v.ownBlock = some g
 | .dat _ => fun _ => False
 | .own S _ => S
def Fr (φ : Nat → Prop) (L : List N2) (b : Nat) : Prop := φ b ∧ ∀ r ∈ L, ¬ r.blk b
def N2.holds (w : World) (φ : Nat → Prop) : N2 → Prop
 | .box b cs => P5 w b cs
 | .row e sz v n xs => w.ownsRow 0 e sz v n xs
 | .dat R => V2 R ∧ R w φ
 | .own S R => (∀ w w', R w → (∀ b, S b → b < w.heap.size → w'.heap[b]? = w.heap[b]?) → R w') ∧ R w ∧ ∀ b, S b → b < w.heap.size
structure v9 (ψ : Nat → Prop) (w w' : World) : Prop where
 os : w'.os = w.os
 tape : w'.tape = w.tape
 output : w'.output = w.output
 size : w.heap.size ≤ w'.heap.size
 block : ∀ b, b < w.heap.size → ψ b → w'.heap[b]? = w.heap[b]?
theorem v9.refl (ψ : Nat → Prop) (w : World) : v9 ψ w w := ⟨rfl, rfl, rfl, bf5 _, fun _ _ _ => rfl⟩
theorem v9.trans {ψ : Nat → Prop} {a b c : World} (h : v9 ψ a b) (k : v9 ψ b c) : v9 ψ a c :=
 ⟨k.os.trans h.os, k.tape.trans h.tape, k.output.trans h.output, bi1 h.size k.size, fun i hi hp => (k.block i (bg6 hi h.size) hp).trans (h.block i hi hp)⟩
theorem v9.of_below {ψ : Nat → Prop} {w w' : World} {B : Nat} (h : Below B w w') (hB : ∀ b, b < w.heap.size → ψ b → b < B) : v9 ψ w w' := ⟨h.os, h.tape, h.output, h.size, fun b hb hp => h.block b (hB b hb hp)⟩
theorem v9.below {w w' : World} {ψ : Nat → Prop} (h : v9 ψ w w') (hp : ∀ b, b < w.heap.size → ψ b) : Below w.heap.size w w' := ⟨h.os, h.tape, h.output, h.size, fun b hb => h.block b hb (hp b hb)⟩
structure A0 (φ ψ : Nat → Prop) (w0 w : World) (L : List N2) : Prop where
 kept : v9 ψ w0 w
 fresh : ∀ b, w0.heap.size ≤ b → φ b
 holds : ∀ (r : N2), r ∈ L → r.holds w (Fr φ L)
 dis : ∀ (i j : Nat) (a b : N2) (g : Nat), L[i]? = some a → L[j]? = some b → i ≠ j → a.blk g → ¬ b.blk g
 ge : ∀ (r : N2) (b : Nat), r ∈ L → r.blk b → w0.heap.size ≤ b ∨ ¬ ψ b
section
variable {φ ψ : Nat → Prop} {w0 w w' : World} {L : List N2}
theorem A0.start (hf : ∀ b, w0.heap.size ≤ b → φ b) : A0 φ ψ w0 w0 [] := ⟨v9.refl _ _, hf, (fun _ h => by cases h), (fun i j a b g h => by simp at h), (fun _ _ h => by cases h)⟩
theorem N2.lt {r : N2} (h : r.holds w φ) {b : Nat} (hb : r.blk b) : b < w.heap.size := by
 cases r with
 | box b' cs => cases hb; exact P5.lt h
 | row e sz v n xs => exact (World.ownsRow.lt h b hb).2
 | dat R => cases hb
 | own S R => exact h.2.2 b hb
theorem A0.lt (M : A0 φ ψ w0 w L) {r : N2} (hr : r ∈ L) {b : Nat} (hb : r.blk b) : b < w.heap.size := N2.lt (M.holds r hr) hb
theorem A0.size (M : A0 φ ψ w0 w L) : w0.heap.size ≤ w.heap.size := M.kept.size
theorem A0.below (M : A0 φ ψ w0 w L) (hp : ∀ b, b < w0.heap.size → ψ b) : Below w0.heap.size w0 w := M.kept.below hp
theorem N2.keep {φ' : Nat → Prop} {r : N2} (h : r.holds w φ) (ha : I8 φ φ' w w') (hb : ∀ b, r.blk b → w'.heap[b]? = w.heap[b]?) : r.holds w' φ' := by
 cases r with
 | box b cs => obtain ⟨T, h⟩ := h; exact ⟨T, (hb b rfl).trans h⟩
 | row e sz v n xs => exact (I5.same (lo := 0) (hi := w.heap.size) ⟨h, fun g hg => (World.ownsRow.lt h g hg).2⟩ hb).1
 | dat R => exact ⟨h.1, h.1 _ _ _ _ ha h.2⟩
 | own S R => exact ⟨h.1, h.1 _ _ h.2.1 fun b hs _ => hb b hs, fun b hs => bg6 (h.2.2 b hs) ha.1⟩
theorem A0.call (M : A0 φ ψ w0 w L) (b : Below w.heap.size w w') : A0 φ ψ w0 w' L :=
 ⟨M.kept.trans (v9.of_below b fun _ h _ => h), M.fresh, fun r hr => N2.keep (M.holds r hr) (I8.below b) fun g hg => b.block g (M.lt hr hg), M.dis, M.ge⟩
theorem A0.drew (M : A0 φ ψ w0 w L) : A0 φ ψ w0 w.drew L := M.call (Below.refl _ _).drew
theorem Fr.snoc {r : N2} {b : Nat} : Fr φ (L ++ [r]) b ↔ Fr φ L b ∧ ¬ r.blk b := by
 unfold Fr
 constructor
 ·rintro ⟨h1, h2⟩; exact ⟨⟨h1, fun x hx => h2 x (by simp [hx])⟩, h2 r (by simp)⟩
 ·rintro ⟨⟨h1, h2⟩, h3⟩
  refine ⟨h1, fun x hx => ?_⟩
  simp only [bg8, bh3] at hx
  rcases hx with hx | rfl
  ·exact h2 x hx
  ·exact h3
theorem A0.add (M : A0 φ ψ w0 w L) (b : Below w.heap.size w w') (r : N2) (h : r.holds w' (Fr φ (L ++ [r]))) (hg : ∀ g, r.blk g → w.heap.size ≤ g) : A0 φ ψ w0 w' (L ++ [r]) := by
 have M' := M.call b
 refine ⟨M'.kept, M.fresh, fun x hx => ?_, fun i j x y g hi hj hij hx hy => ?_, fun x g hx hxg => ?_⟩
 ·simp only [bg8, bh3] at hx
  rcases hx with hx | rfl
  ·exact N2.keep (M.holds x hx) ⟨b.size, fun c hc hf => ⟨Fr.snoc.2 ⟨hf, fun he => by have := hg c he; omega⟩, b.block c hc⟩⟩ fun g hgx => b.block g (M.lt hx hgx)
  ·exact h
 ·have lt : ∀ (k : Nat) (z : N2), (L ++ [r])[k]? = some z → (k < L.length ∧ L[k]? = some z) ∨ (k = L.length ∧ z = r) := by
   intro k z hz
   rcases bh7 k L.length with hk | hk
   ·rw [bh5 hk] at hz; exact .inl ⟨hk, hz⟩
   ·rw [bh6 hk] at hz
    have : k - L.length = 0 := by
     rcases Nat.eq_zero_or_pos (k - L.length) with h | h
     ·exact h
     ·rw [bh4 (by rw [List.length_singleton]; exact h)] at hz; cases hz
    rw [this] at hz; simp at hz
    exact .inr ⟨by omega, hz.symm⟩
  rcases lt i x hi with ⟨hi', h1⟩ | ⟨hi', rfl⟩ <;> rcases lt j y hj with ⟨hj', h2⟩ | ⟨hj', rfl⟩
  ·exact M.dis i j x y g h1 h2 hij hx hy
  ·have := M.lt (bf7 h1) hx; have := hg g hy; omega
  ·have := M.lt (bf7 h2) hy; have := hg g hx; omega
  ·omega
 ·simp only [bg8, bh3] at hx
  rcases hx with hx | rfl
  ·exact M.ge x g hx hxg
  ·exact .inl (bi1 M.size (hg g hxg))
theorem A0.box (M : A0 φ ψ w0 w L) (cs : List Value) (T : TypeId) : A0 φ ψ w0 (w.alloc (.cells cs.toArray T)) (L ++ [.box w.heap.size cs]) :=
 M.add ((Below.refl _ _).alloc (bf5 _) _) _ (P5.new w cs T) fun g hg => by cases hg; exact bf5 _
theorem A0.box' (M : A0 φ ψ w0 w L) (cs : List Value) (T : TypeId) {b : Nat} (hb : b = w.heap.size) : A0 φ ψ w0 (w.alloc (.cells cs.toArray T)) (L ++ [.box b cs]) := by subst hb; exact M.box cs T
theorem A0.dat (M : A0 φ ψ w0 w L) {R : World → (Nat → Prop) → Prop} (hn : V2 R) (h : R w (Fr φ L)) : A0 φ ψ w0 w (L ++ [.dat R]) :=
 M.add (Below.refl _ _) _ ⟨hn, hn _ _ _ _ (I8.mono fun b _ hf => Fr.snoc.2 ⟨hf, fun h => by cases h⟩) h⟩ fun g hg => by cases hg
theorem A0.callR (M : A0 φ ψ w0 w L) (b : Below w.heap.size w w') {e : TypeId} {sz : Nat} {v : Value} {n : Nat} {xs : List Value} (h : w'.ownsRow w.heap.size e sz v n xs) : A0 φ ψ w0 w' (L ++ [.row e sz v n xs]) :=
 M.add b _ (D2 h (bg3 _)) fun g hg => (h.lt g hg).1
theorem A0.nil (M : A0 φ ψ w0 w L) (e : TypeId) (sz : Nat) : A0 φ ψ w0 w (L ++ [.row e sz (.slice none 0 0) 0 []]) :=
 M.add (Below.refl _ _) _ (World.ownsRow_nil _ _ _ _) fun g hg => by cases hg
theorem Fr.set {r : N2} {i : Nat} {a : N2} (_hi : L[i]? = some a) {b : Nat} (h : Fr φ L b) (hr : ¬ r.blk b) : Fr φ (L.set i r) b :=
 ⟨h.1, fun x hx => by
  rcases List.mem_or_eq_of_mem_set hx with hx | rfl
  ·exact h.2 x hx
  ·exact hr⟩
theorem A0.put (M : A0 φ ψ w0 w L) {i : Nat} {a : N2} (hi : L[i]? = some a) (r : N2) (hk : v9 (fun b => ¬ a.blk b) w w') (h : r.holds w' (Fr φ (L.set i r))) (hg : ∀ g, r.blk g → a.blk g ∨ w.heap.size ≤ g) : A0 φ ψ w0 w' (L.set i r) := by
 have hil := (bf3.1 hi).1
 have ha := bf7 hi
 have get : ∀ (j : Nat) (z : N2), (L.set i r)[j]? = some z → (j ≠ i ∧ L[j]? = some z) ∨ (j = i ∧ z = r) := by
  intro j z hz
  by_cases e : j = i
  ·subst e; rw [List.getElem?_set_self hil] at hz; exact .inr ⟨rfl, (Option.some.inj hz).symm⟩
  ·rw [List.getElem?_set_ne (fun h => e h.symm)] at hz; exact .inl ⟨e, hz⟩
 refine ⟨⟨hk.os.trans M.kept.os, hk.tape.trans M.kept.tape, hk.output.trans M.kept.output, bi1 M.size hk.size, fun b hb hp => (hk.block b (bg6 hb M.size) fun he => ?_).trans (M.kept.block b hb hp)⟩, M.fresh, fun x hx => ?_, fun j k x y g hj hk' hjk hx hy => ?_, fun x g hx hxg => ?_⟩
 ·rcases M.ge a b ha he with h' | h'
  ·omega
  ·exact h' hp
 ·obtain ⟨j, hj⟩ := List.mem_iff_getElem?.1 hx
  rcases get j x hj with ⟨hne, hj'⟩ | ⟨_, rfl⟩
  ·refine N2.keep (M.holds x (bf7 hj')) ⟨hk.size, fun b hb hf => ⟨Fr.set hi hf fun he => ?_, hk.block b hb (hf.2 a ha)⟩⟩ fun g hgx => hk.block g (M.lt (bf7 hj') hgx) fun he => M.dis i j a x g hi hj' (fun e => hne e.symm) he hgx
   rcases hg b he with h' | h'
   ·exact hf.2 a ha h'
   ·omega
  ·exact h
 ·rcases get j x hj with ⟨hne, hj'⟩ | ⟨e1, rfl⟩ <;> rcases get k y hk' with ⟨hne', hk''⟩ | ⟨e2, rfl⟩
  ·exact M.dis j k x y g hj' hk'' hjk hx hy
  ·rcases hg g hy with h' | h'
   ·exact M.dis j i x a g hj' hi hne hx h'
   ·have := M.lt (bf7 hj') hx; omega
  ·rcases hg g hx with h' | h'
   ·exact M.dis i k a y g hi hk'' (fun e => hne' e.symm) h' hy
   ·have := M.lt (bf7 hk'') hy; omega
  ·omega
 ·obtain ⟨j, hj⟩ := List.mem_iff_getElem?.1 hx
  rcases get j x hj with ⟨hne, hj'⟩ | ⟨_, rfl⟩
  ·exact M.ge x g (bf7 hj') hxg
  ·rcases hg g hxg with h' | h'
   ·exact M.ge a g ha h'
   ·exact .inl (bi1 M.size h')
theorem v9.mono {ψ ψ' : Nat → Prop} {w w' : World} (h : v9 ψ w w') (hp : ∀ b, ψ' b → ψ b) : v9 ψ' w w' := ⟨h.os, h.tape, h.output, h.size, fun b hb hp' => h.block b hb (hp b hp')⟩
theorem v9.setCell (w : World) (b j : Nat) (u : Value) : v9 (fun c => ¬ c = b) w (w.setCell ⟨b, j, none⟩ u) :=
 ⟨rfl, rfl, rfl, by simp [World.setCell], fun c _ hc => Below.heap_setCell _ _ _ _ hc⟩
theorem A0.set (M : A0 φ ψ w0 w L) (i : Nat) {b : Nat} {cs : List Value} (hi : L[i]? = some (.box b cs)) (j : Nat) (u : Value) : A0 φ ψ w0 (w.setCell ⟨b, j, none⟩ u) (L.set i (.box b (cs.set j u))) :=
 M.put hi _ (v9.setCell w b j u) (P5.set (M.holds _ (bf7 hi)) u) fun _ hg => .inl hg
theorem A0.setFrom (us : List Value) : ∀ {w : World} {L : List N2} {p : Nat} {cs : List Value}, A0 φ ψ w0 w L → ∀ (i : Nat) {b : Nat}, L[i]? = some (.box b cs) → A0 φ ψ w0 (World.setFrom w b p us) (L.set i (.box b (Go.Proofs.Ytgmhmijcnlfmfaa.setFrom cs p us))) := by
 induction us with
 | nil =>
  intro w L p cs M i b hi
  have : L.set i (.box b cs) = L := by
   apply List.ext_getElem?
   intro j
   rw [List.getElem?_set]
   split
   ·rename_i e; subst e; rw [if_pos (bf3.1 hi).1, hi]
   ·rfl
  show A0 φ ψ w0 w (L.set i (.box b cs))
  rw [this]; exact M
 | cons u r ih =>
  intro w L p cs M i b hi
  have h1 := M.set i hi p u
  have h2 := ih (p := p + 1) h1 i (by rw [List.getElem?_set_self (bf3.1 hi).1])
  rw [List.set_set] at h2
  exact h2
theorem ay3 {cs us : List Value} (h : us.length = cs.length) : Go.Proofs.Ytgmhmijcnlfmfaa.setFrom cs 0 us = us := by
 have h1 := O0 us cs 0 (by omega)
 rw [bi4, bf6 (by rw [D9]; omega)] at h1
 simpa using h1
theorem A0.fill (M : A0 φ ψ w0 w L) (i : Nat) {b : Nat} {cs : List Value} (hi : L[i]? = some (.box b cs)) (us : List Value) (h : us.length = cs.length) : A0 φ ψ w0 (World.setFrom w b 0 us) (L.set i (.box b us)) := by
 have h1 := M.setFrom us (p := 0) i hi
 rwa [ay3 h] at h1
theorem A0.callB (M : A0 φ ψ w0 w L) (i : Nat) {b : Nat} {cs cs' : List Value} (hi : L[i]? = some (.box b cs)) (hk : v9 (fun c => ¬ c = b) w w') (h : P5 w' b cs') : A0 φ ψ w0 w' (L.set i (.box b cs')) :=
 M.put hi _ hk h fun _ hg => .inl hg
theorem A0.rowSet (M : A0 φ ψ w0 w L) (i : Nat) {e : TypeId} {sz n cap g : Nat} {xs : List Value} (hi : L[i]? = some (.row e sz (.slice (some ⟨g, 0, none⟩) n cap) n xs)) {j : Nat} (hj : j < xs.length) (u : Value) :
  A0 φ ψ w0 (w.setCell ⟨g, j, none⟩ u) (L.set i (.row e sz (.slice (some ⟨g, 0, none⟩) n cap) n (xs.set j u))) :=
 M.put hi _ ((v9.setCell w g j u).mono fun b hb e => hb (by rw [e]; rfl)) (I5.setCell (I5.mk' (M.holds _ (bf7 hi))) hj u).1 fun _ hg => .inl hg
theorem A0.app (M : A0 φ ψ w0 w L) (i : Nat) {e : TypeId} {sz : Nat} {v v' : Value} {n n' : Nat} {xs xs' : List Value} (hi : L[i]? = some (.row e sz v n xs)) (h : w'.ownsRow 0 e sz v' n' xs') (hg : w.grownBy w' v.ownBlock) (hb : ∀ g, v'.ownBlock = some g → v.ownBlock = some g ∨ w.heap.size ≤ g) :
  A0 φ ψ w0 w' (L.set i (.row e sz v' n' xs')) :=
 M.put hi _ ⟨hg.os, hg.tape, hg.output, hg.size, fun b hb hn => hg.block b hb fun h => hn h.symm⟩ h hb
theorem A0.callO (M : A0 φ ψ w0 w L) (b : Below w.heap.size w w') {S : Nat → Prop} {R : World → Prop} (hR : ∀ w w', R w → (∀ b, S b → b < w.heap.size → w'.heap[b]? = w.heap[b]?) → R w') (h : R w') (hs : ∀ b, S b → w.heap.size ≤ b ∧ b < w'.heap.size) : A0 φ ψ w0 w' (L ++ [.own S R]) :=
 M.add b _ ⟨hR, h, fun b hb => (hs b hb).2⟩ fun g hg => (hs g hg).1
theorem A0.turn (M : A0 φ ψ w0 w L) (i : Nat) {S : Nat → Prop} {R R' : World → Prop} (hi : L[i]? = some (.own S R)) (hk : v9 (fun b => ¬ S b) w w') (hR : ∀ w w', R' w → (∀ b, S b → b < w.heap.size → w'.heap[b]? = w.heap[b]?) → R' w') (h : R' w') : A0 φ ψ w0 w' (L.set i (.own S R')) :=
 M.put hi _ hk ⟨hR, h, fun b hb => bg6 ((M.holds _ (bf7 hi)).2.2 b hb) hk.size⟩ fun _ hg => .inl hg
theorem A0.o (M : A0 φ ψ w0 w L) (i : Nat) {S : Nat → Prop} {R : World → Prop} (hi : L[i]? = some (.own S R)) : R w := (M.holds _ (bf7 hi)).2.1
theorem A0.take (M : A0 φ ψ w0 w L) (k : Nat) : A0 φ ψ w0 w (L.take k) :=
 ⟨M.kept, M.fresh, fun r hr => N2.keep (M.holds r (List.mem_of_mem_take hr)) (I8.mono fun _ _ hf => ⟨hf.1, fun x hx => hf.2 x (List.mem_of_mem_take hx)⟩) fun _ _ => rfl,
  fun i j a b g hi hj hij => M.dis i j a b g (by rw [List.getElem?_take] at hi; split at hi; exact hi; cases hi) (by rw [List.getElem?_take] at hj; split at hj; exact hj; cases hj) hij, fun r b hr => M.ge r b (List.mem_of_mem_take hr)⟩
theorem A0.sel (M : A0 φ ψ w0 w L) (is : List Nat) (L' : List N2) (h : L'.map some = is.map fun i => L[i]?) (hn : is.Nodup) : A0 φ ψ w0 w L' := by
 have hl : L'.length = is.length := by simpa using congrArg List.length h
 have get : ∀ (j : Nat) (r : N2), L'[j]? = some r → ∃ i, is[j]? = some i ∧ L[i]? = some r := by
  intro j r hj
  have h1 : (L'.map some)[j]? = some (some r) := by simp [hj]
  rw [h, List.getElem?_map] at h1
  cases hi : is[j]? with
  | none => rw [hi] at h1; cases h1
  | some i => rw [hi] at h1; exact ⟨i, rfl, Option.some.inj h1⟩
 have mem : ∀ r, r ∈ L' → r ∈ L := fun r hr => by
  obtain ⟨j, hj⟩ := List.mem_iff_getElem?.1 hr
  obtain ⟨i, _, hi⟩ := get j r hj
  exact bf7 hi
 refine ⟨M.kept, M.fresh, fun r hr => N2.keep (M.holds r (mem r hr)) (I8.mono fun _ _ hf => ⟨hf.1, fun x hx => hf.2 x (mem x hx)⟩) fun _ _ => rfl, fun j k a b g hj hk hjk ha hb => ?_, fun r b hr => M.ge r b (mem r hr)⟩
 obtain ⟨i1, e1, h1⟩ := get j a hj
 obtain ⟨i2, e2, h2⟩ := get k b hk
 refine M.dis i1 i2 a b g h1 h2 (fun e => hjk ?_) ha hb
 subst e
 have hlt := (bf3.1 e1).1
 exact (List.getElem?_inj hlt hn).1 (e1.trans e2.symm)
theorem A0.c (M : A0 φ ψ w0 w L) (i j : Nat) {b : Nat} {cs : List Value} {u : Value} (hi : L[i]? = some (.box b cs)) (hj : cs[j]? = some u) : w.cell? ⟨b, j, none⟩ = some u :=
 (P5.cell (M.holds _ (bf7 hi)) j).trans hj
theorem A0.f (M : A0 φ ψ w0 w L) (i : Nat) {b : Nat} {cs : List Value} (hi : L[i]? = some (.box b cs)) : ∀ j, w.frozen? ⟨b, j, none⟩ = false := P5.free (M.holds _ (bf7 hi))
theorem A0.blk (M : A0 φ ψ w0 w L) (i : Nat) {b : Nat} {cs : List Value} (hi : L[i]? = some (.box b cs)) : P5 w b cs := M.holds _ (bf7 hi)
theorem A0.r (M : A0 φ ψ w0 w L) (i : Nat) {e : TypeId} {sz : Nat} {v : Value} {n : Nat} {xs : List Value} (hi : L[i]? = some (.row e sz v n xs)) : w.ownsRow 0 e sz v n xs := M.holds _ (bf7 hi)
theorem A0.d (M : A0 φ ψ w0 w L) (i : Nat) {R : World → (Nat → Prop) → Prop} (hi : L[i]? = some (.dat R)) : R w (Fr φ L) := (M.holds _ (bf7 hi)).2
theorem A0.dn (M : A0 φ ψ w0 w L) (i : Nat) {R : World → (Nat → Prop) → Prop} (hi : L[i]? = some (.dat R)) : V2 R := (M.holds _ (bf7 hi)).1
theorem A0.out (M : A0 φ ψ w0 w L) (i : Nat) {R : World → (Nat → Prop) → Prop} (hi : L[i]? = some (.dat R)) : R w φ := M.dn i hi _ _ _ _ (I8.mono fun _ _ hf => hf.1) (M.d i hi)
theorem A0.as (M : A0 φ ψ w0 w L) (L' : List N2) (h : L = L') : A0 φ ψ w0 w L' := h ▸ M
end
end Go.Proofs.Ytgmhmijcnlfmfaa

namespace Go.Proofs.Ytgmhmijcnlfmfaa
inductive b7 where
 | mk (kind value : Int) (kids : List b7)
def b7.kind : b7 → Int | ⟨k, _, _⟩ => k
def b7.value : b7 → Int | ⟨_, n, _⟩ => n
def b7.kids : b7 → List b7 | ⟨_, _, ks⟩ => ks
inductive b6 where
 | mk (kind target : Int) (index value : b7) (count : Int) (body els : List b6)
def b6.kind : b6 → Int | ⟨k, _, _, _, _, _, _⟩ => k
def b6.target : b6 → Int | ⟨_, t, _, _, _, _, _⟩ => t
def b6.index : b6 → b7 | ⟨_, _, i, _, _, _, _⟩ => i
def b6.value : b6 → b7 | ⟨_, _, _, v, _, _, _⟩ => v
def b6.count : b6 → Int | ⟨_, _, _, _, c, _, _⟩ => c
def b6.body : b6 → List b6 | ⟨_, _, _, _, _, b, _⟩ => b
def b6.els : b6 → List b6 | ⟨_, _, _, _, _, _, e⟩ => e
structure l9 where
 vars : List Int
 arrays : List Int
 body : List b6
mutual
theorem b7.ind {P : b7 → Prop} (h : ∀ k n ks, (∀ e ∈ ks, P e) → P ⟨k, n, ks⟩) : ∀ e : b7, P e
 | ⟨k, n, ks⟩ => h k n ks (b7.indL h ks)
theorem b7.indL {P : b7 → Prop} (h : ∀ k n ks, (∀ e ∈ ks, P e) → P ⟨k, n, ks⟩) : ∀ ks : List b7, ∀ e ∈ ks, P e
 | [] => fun _ hm => by cases hm
 | a :: r => fun _ hm => (bi6.1 hm).elim (fun he => he ▸ b7.ind h a) fun hm => b7.indL h r _ hm
end
mutual
theorem b6.ind {P : b6 → Prop} (h : ∀ k t i v c b e, (∀ s ∈ b, P s) → (∀ s ∈ e, P s) → P ⟨k, t, i, v, c, b, e⟩) : ∀ s : b6, P s
 | ⟨k, t, i, v, c, b, e⟩ => h k t i v c b e (b6.indL h b) (b6.indL h e)
theorem b6.indL {P : b6 → Prop} (h : ∀ k t i v c b e, (∀ s ∈ b, P s) → (∀ s ∈ e, P s) → P ⟨k, t, i, v, c, b, e⟩) : ∀ ss : List b6, ∀ s ∈ ss, P s
 | [] => fun _ hm => by cases hm
 | a :: r => fun _ hm => (bi6.1 hm).elim (fun he => he ▸ b6.ind h a) fun hm => b6.indL h r _ hm
end
mutual
def B9 : b7 → Nat
 | ⟨_, _, ks⟩ => m6 ks
def m6 : List b7 → Nat
 | [] => 0
 | e :: r => 1 + B9 e + m6 r
end
mutual
def szS : b6 → Nat
 | ⟨_, _, i, v, _, b, e⟩ => B9 i + B9 v + t7 b + t7 e
def t7 : List b6 → Nat
 | [] => 0
 | s :: r => 1 + szS s + t7 r
end
def l9.size (p : l9) : Nat := p.vars.length + p.arrays.length + t7 p.body
theorem M5 (a b : List b7) : m6 (a ++ b) = m6 a + m6 b := by
 induction a with
 | nil => simp [m6]
 | cons x r ih => simp [m6, ih]; omega
theorem ah8 (a b : List b6) : t7 (a ++ b) = t7 a + t7 b := by
 induction a with
 | nil => simp [t7]
 | cons x r ih => simp [t7, ih]; omega
theorem S0 (a : List b7) : a.length ≤ m6 a := by
 induction a with
 | nil => simp
 | cons x r ih => simp only [m6, bi0]; omega
theorem R9 (a : List b6) : a.length ≤ t7 a := by
 induction a with
 | nil => simp
 | cons x r ih => simp only [t7, bi0]; omega
theorem aY2 {e : b7} {ks : List b7} (h : e ∈ ks) : B9 e < m6 ks := by
 induction ks with
 | nil => cases h
 | cons x r ih =>
  simp only [m6]
  rcases bi6.1 h with rfl | h
  ·omega
  ·have := ih h; omega
theorem aI2 {s : b6} {ss : List b6} (h : s ∈ ss) : szS s < t7 ss := by
 induction ss with
 | nil => cases h
 | cons x r ih =>
  simp only [t7]
  rcases bi6.1 h with rfl | h
  ·omega
  ·have := ih h; omega
mutual
def J1 : b7 → b7 → Bool
 | ⟨k, n, ks⟩, ⟨k', n', ks'⟩ => decide (k = k') && decide (n = n') && J9 ks ks'
def J9 : List b7 → List b7 → Bool
 | [], [] => true
 | e :: r, e' :: r' => J1 e e' && J9 r r'
 | _, _ => false
end
mutual
def al1 : b6 → b6 → Bool
 | ⟨k, t, i, v, c, b, e⟩, ⟨k', t', i', v', c', b', e'⟩ => decide (k = k') && decide (t = t') && J1 i i' && J1 v v' && decide (c = c') && E8 b b' && E8 e e'
def E8 : List b6 → List b6 → Bool
 | [], [] => true
 | s :: r, s' :: r' => al1 s s' && E8 r r'
 | _, _ => false
end
mutual
theorem S7 : ∀ (a b : b7), J1 a b = true ↔ a = b
 | ⟨k, n, ks⟩, ⟨k', n', ks'⟩ => by
  simp only [J1, bf0, decide_eq_true_eq, b7.mk.injEq, S6 ks ks', and_assoc]
theorem S6 : ∀ (a b : List b7), J9 a b = true ↔ a = b
 | [], [] => by simp [J9]
 | [], _ :: _ => by simp [J9]
 | _ :: _, [] => by simp [J9]
 | e :: r, e' :: r' => by simp only [J9, bf0, List.cons.injEq, S7 e e', S6 r r']
end
mutual
theorem al0 : ∀ (a b : b6), al1 a b = true ↔ a = b
 | ⟨k, t, i, v, c, b, e⟩, ⟨k', t', i', v', c', b', e'⟩ => by
  simp only [al1, bf0, decide_eq_true_eq, b6.mk.injEq, S7 i i', S7 v v', L3 b b', L3 e e', and_assoc]
theorem L3 : ∀ (a b : List b6), E8 a b = true ↔ a = b
 | [], [] => by simp [E8]
 | [], _ :: _ => by simp [E8]
 | _ :: _, [] => by simp [E8]
 | e :: r, e' :: r' => by simp only [E8, bf0, List.cons.injEq, al0 e e', L3 r r']
end
def l9.same (p q : l9) : Bool := decide (p.vars = q.vars) && decide (p.arrays = q.arrays) && E8 p.body q.body
theorem l9.same_eq {p q : l9} : p.same q = true ↔ p = q := by
 cases p; cases q
 simp only [l9.same, bf0, decide_eq_true_eq, l9.mk.injEq, L3, and_assoc]
theorem aE8 {a b : List b7} (h : a.length ≠ b.length) : J9 a b = false := by
 cases hs : J9 a b
 ·rfl
 ·exact absurd (congrArg List.length ((S6 a b).1 hs)) h
theorem aE7 {a b : List b6} (h : a.length ≠ b.length) : E8 a b = false := by
 cases hs : E8 a b
 ·rfl
 ·exact absurd (congrArg List.length ((L3 a b).1 hs)) h
mutual
def mkE : b7 → Int → b7
 | ⟨_, _, ks⟩, k => ⟨k, k + 1, W4 ks (k + 2)⟩
def W4 : List b7 → Int → List b7
 | [], _ => []
 | e :: r, k => mkE e k :: W4 r (k + 2 + 2 * B9 e)
end
mutual
def mkS : b6 → Int → b6
 | ⟨_, _, i, v, _, b, e⟩, k => ⟨k, k + 1, mkE i (k + 2), mkE v (k + 4 + 2 * B9 i), k + 6 + 2 * B9 i + 2 * B9 v, X2 b (k + 7 + 2 * B9 i + 2 * B9 v), X2 e (k + 7 + 2 * B9 i + 2 * B9 v + X4 b)⟩
def X2 : List b6 → Int → List b6
 | [], _ => []
 | s :: r, k => mkS s k :: X2 r (k + az6 s)
def az6 : b6 → Int
 | ⟨_, _, i, v, _, b, e⟩ => 7 + 2 * B9 i + 2 * B9 v + X4 b + X4 e
def X4 : List b6 → Int
 | [] => 0
 | s :: r => az6 s + X4 r
end
end Go.Proofs.Ytgmhmijcnlfmfaa

namespace Go.Proofs.Ytgmhmijcnlfmfaa
open Go Go.RowKit
section
mutual
def H1 (w : World) (φ : Nat → Prop) : b7 → List Value → Prop
 | ⟨k, n, ks⟩, cs => ∃ v xs, cs = [.int .i64 k, .int .i64 n, v] ∧ B2 w φ v ks.length 3 xs ∧ A4 w φ ks xs
def A4 (w : World) (φ : Nat → Prop) : List b7 → List Value → Prop
 | [], xs => xs = []
 | e :: r, xs => ∃ c ys, xs = c ++ ys ∧ H1 w φ e c ∧ A4 w φ r ys
end
def s7 (w : World) (φ : Nat → Prop) (v : Value) (ks : List b7) : Prop := ∃ xs, B2 w φ v ks.length 3 xs ∧ A4 w φ ks xs
def I4 (w : World) (φ : Nat → Prop) (v : Value) (e : b7) : Prop := ∃ kv, v = .agg #[.int .i64 e.kind, .int .i64 e.value, kv] ∧ s7 w φ kv e.kids
mutual
def H0 (w : World) (φ : Nat → Prop) : b6 → List Value → Prop
 | ⟨k, t, i, v, c, b, e⟩, cs => ∃ iv vv bv ev xb xe, cs = [.int .i64 k, .int .i64 t, .int .i64 i.kind, .int .i64 i.value, iv, .int .i64 v.kind, .int .i64 v.value, vv, .int .i64 c, bv, ev] ∧
   s7 w φ iv i.kids ∧ s7 w φ vv v.kids ∧ B2 w φ bv b.length 11 xb ∧ w9 w φ b xb ∧ B2 w φ ev e.length 11 xe ∧ w9 w φ e xe
def w9 (w : World) (φ : Nat → Prop) : List b6 → List Value → Prop
 | [], xs => xs = []
 | s :: r, xs => ∃ c ys, xs = c ++ ys ∧ H0 w φ s c ∧ w9 w φ r ys
end
def t3 (w : World) (φ : Nat → Prop) (v : Value) (ss : List b6) : Prop := ∃ xs, B2 w φ v ss.length 11 xs ∧ w9 w φ ss xs
def Q8 (w : World) (φ : Nat → Prop) (v : Value) (s : b6) : Prop :=
 ∃ iv vv bv ev, v = .agg #[.int .i64 s.kind, .int .i64 s.target, .int .i64 s.index.kind, .int .i64 s.index.value, iv, .int .i64 s.value.kind, .int .i64 s.value.value, vv, .int .i64 s.count, bv, ev] ∧
  s7 w φ iv s.index.kids ∧ s7 w φ vv s.value.kids ∧ t3 w φ bv s.body ∧ t3 w φ ev s.els
def ae8 (w : World) (φ : Nat → Prop) (v : Value) (p : l9) : Prop :=
 ∃ v1 v2 v3, v = .agg #[v1, v2, v3] ∧ B2 w φ v1 p.vars.length 1 (ints p.vars) ∧ B2 w φ v2 p.arrays.length 1 (ints p.arrays) ∧ t3 w φ v3 p.body
variable {w w' : World} {φ φ' : Nat → Prop}
mutual
theorem H1.agr (ha : I8 φ φ' w w') : ∀ (e : b7) (cs : List Value), H1 w φ e cs → H1 w' φ' e cs
 | ⟨_, _, ks⟩, _, ⟨v, xs, h1, h2, h3⟩ => ⟨v, xs, h1, B2.nice _ _ _ _ _ _ _ _ ha h2, A4.agr ha ks xs h3⟩
theorem A4.agr (ha : I8 φ φ' w w') : ∀ (ks : List b7) (xs : List Value), A4 w φ ks xs → A4 w' φ' ks xs
 | [], _, h => h
 | e :: r, _, ⟨c, ys, h1, h2, h3⟩ => ⟨c, ys, h1, H1.agr ha e c h2, A4.agr ha r ys h3⟩
end
theorem A4.nice (ks : List b7) (xs : List Value) : V2 fun w φ => A4 w φ ks xs := fun _ _ _ _ ha h => A4.agr ha ks xs h
theorem s7.nice (v : Value) (ks : List b7) : V2 fun w φ => s7 w φ v ks := fun _ _ _ _ ha ⟨xs, h1, h2⟩ => ⟨xs, B2.nice _ _ _ _ _ _ _ _ ha h1, A4.agr ha ks xs h2⟩
theorem I4.nice (v : Value) (e : b7) : V2 fun w φ => I4 w φ v e := fun _ _ _ _ ha ⟨kv, h1, h2⟩ => ⟨kv, h1, s7.nice _ _ _ _ _ _ ha h2⟩
mutual
theorem H0.agr (ha : I8 φ φ' w w') : ∀ (s : b6) (cs : List Value), H0 w φ s cs → H0 w' φ' s cs
 | ⟨_, _, _, _, _, b, e⟩, _, ⟨iv, vv, bv, ev, xb, xe, h1, h2, h3, h4, h5, h6, h7⟩ =>
  ⟨iv, vv, bv, ev, xb, xe, h1, s7.nice _ _ _ _ _ _ ha h2, s7.nice _ _ _ _ _ _ ha h3, B2.nice _ _ _ _ _ _ _ _ ha h4, w9.agr ha b xb h5, B2.nice _ _ _ _ _ _ _ _ ha h6, w9.agr ha e xe h7⟩
theorem w9.agr (ha : I8 φ φ' w w') : ∀ (ss : List b6) (xs : List Value), w9 w φ ss xs → w9 w' φ' ss xs
 | [], _, h => h
 | s :: r, _, ⟨c, ys, h1, h2, h3⟩ => ⟨c, ys, h1, H0.agr ha s c h2, w9.agr ha r ys h3⟩
end
theorem w9.nice (ss : List b6) (xs : List Value) : V2 fun w φ => w9 w φ ss xs := fun _ _ _ _ ha h => w9.agr ha ss xs h
theorem t3.nice (v : Value) (ss : List b6) : V2 fun w φ => t3 w φ v ss := fun _ _ _ _ ha ⟨xs, h1, h2⟩ => ⟨xs, B2.nice _ _ _ _ _ _ _ _ ha h1, w9.agr ha ss xs h2⟩
theorem Q8.nice (v : Value) (s : b6) : V2 fun w φ => Q8 w φ v s := fun _ _ _ _ ha ⟨iv, vv, bv, ev, h1, h2, h3, h4, h5⟩ =>
 ⟨iv, vv, bv, ev, h1, s7.nice _ _ _ _ _ _ ha h2, s7.nice _ _ _ _ _ _ ha h3, t3.nice _ _ _ _ _ _ ha h4, t3.nice _ _ _ _ _ _ ha h5⟩
theorem ae8.nice (v : Value) (p : l9) : V2 fun w φ => ae8 w φ v p := fun _ _ _ _ ha ⟨v1, v2, v3, h1, h2, h3, h4⟩ =>
 ⟨v1, v2, v3, h1, B2.nice _ _ _ _ _ _ _ _ ha h2, B2.nice _ _ _ _ _ _ _ _ ha h3, t3.nice _ _ _ _ _ _ ha h4⟩
theorem H1.iff (e : b7) (cs : List Value) : H1 w φ e cs ↔ ∃ kv, cs = [.int .i64 e.kind, .int .i64 e.value, kv] ∧ s7 w φ kv e.kids := by
 cases e with
 | mk k n ks => exact ⟨fun ⟨v, xs, h1, h2, h3⟩ => ⟨v, h1, xs, h2, h3⟩, fun ⟨v, h1, xs, h2, h3⟩ => ⟨v, xs, h1, h2, h3⟩⟩
theorem H0.iff (s : b6) (cs : List Value) : H0 w φ s cs ↔ ∃ iv vv bv ev, cs = [.int .i64 s.kind, .int .i64 s.target, .int .i64 s.index.kind, .int .i64 s.index.value, iv, .int .i64 s.value.kind, .int .i64 s.value.value, vv, .int .i64 s.count, bv, ev] ∧
  s7 w φ iv s.index.kids ∧ s7 w φ vv s.value.kids ∧ t3 w φ bv s.body ∧ t3 w φ ev s.els := by
 cases s with
 | mk k t i v c b e =>
  exact ⟨fun ⟨iv, vv, bv, ev, xb, xe, h1, h2, h3, h4, h5, h6, h7⟩ => ⟨iv, vv, bv, ev, h1, h2, h3, ⟨xb, h4, h5⟩, ⟨xe, h6, h7⟩⟩,
   fun ⟨iv, vv, bv, ev, h1, h2, h3, ⟨xb, h4, h5⟩, ⟨xe, h6, h7⟩⟩ => ⟨iv, vv, bv, ev, xb, xe, h1, h2, h3, h4, h5, h6, h7⟩⟩
theorem I4.iff {v : Value} {e : b7} : I4 w φ v e ↔ ∃ cs : List Value, v = .agg cs.toArray ∧ H1 w φ e cs :=
 ⟨fun ⟨kv, h1, h2⟩ => ⟨_, h1, (H1.iff e _).2 ⟨kv, rfl, h2⟩⟩, fun ⟨cs, h1, h2⟩ => by obtain ⟨kv, rfl, h3⟩ := (H1.iff e cs).1 h2; exact ⟨kv, h1, h3⟩⟩
theorem Q8.iff {v : Value} {s : b6} : Q8 w φ v s ↔ ∃ cs : List Value, v = .agg cs.toArray ∧ H0 w φ s cs :=
 ⟨fun ⟨iv, vv, bv, ev, h1, h2⟩ => ⟨_, h1, (H0.iff s _).2 ⟨iv, vv, bv, ev, rfl, h2⟩⟩, fun ⟨cs, h1, h2⟩ => by obtain ⟨iv, vv, bv, ev, rfl, h3⟩ := (H0.iff s cs).1 h2; exact ⟨iv, vv, bv, ev, h1, h3⟩⟩
theorem A4.len : ∀ {ks : List b7} {xs : List Value}, A4 w φ ks xs → xs.length = ks.length * 3
 | [], _, h => by rw [show _ = [] from h]; rfl
 | e :: r, _, ⟨c, ys, h1, h2, h3⟩ => by
  obtain ⟨kv, rfl, _⟩ := (H1.iff e c).1 h2
  rw [h1, bh9, A4.len h3, bi0]; simp; omega
theorem w9.len : ∀ {ss : List b6} {xs : List Value}, w9 w φ ss xs → xs.length = ss.length * 11
 | [], _, h => by rw [show _ = [] from h]; rfl
 | s :: r, _, ⟨c, ys, h1, h2, h3⟩ => by
  obtain ⟨iv, vv, bv, ev, rfl, _⟩ := (H0.iff s c).1 h2
  rw [h1, bh9, w9.len h3, bi0]; simp; omega
theorem A4.at : ∀ {ks : List b7} {xs : List Value}, A4 w φ ks xs → ∀ (i : Nat) (hi : i < ks.length), ∃ kv, xs[i * 3]? = some (.int .i64 ks[i].kind) ∧ xs[i * 3 + 1]? = some (.int .i64 ks[i].value) ∧ xs[i * 3 + 2]? = some kv ∧ s7 w φ kv ks[i].kids
 | [], _, _, i, hi => by simp at hi
 | e :: r, _, ⟨c, ys, h1, h2, h3⟩, i, hi => by
  obtain ⟨kv, rfl, hk⟩ := (H1.iff e c).1 h2
  subst h1
  cases i with
  | zero => exact ⟨kv, rfl, rfl, rfl, hk⟩
  | succ i =>
   obtain ⟨kv', a, b, d, f⟩ := A4.at h3 i (by simpa using hi)
   refine ⟨kv', ?_, ?_, ?_, f⟩ <;> (rw [bg9]; simpa [Nat.add_assoc] using by assumption)
theorem w9.at : ∀ {ss : List b6} {xs : List Value}, w9 w φ ss xs → ∀ (i : Nat) (hi : i < ss.length), ∃ cs : List Value, cs.length = 11 ∧ H0 w φ ss[i] cs ∧ ∀ j, j < 11 → xs[i * 11 + j]? = cs[j]?
 | [], _, _, i, hi => by simp at hi
 | s :: r, _, ⟨c, ys, h1, h2, h3⟩, i, hi => by
  have hc : c.length = 11 := by obtain ⟨iv, vv, bv, ev, rfl, _⟩ := (H0.iff s c).1 h2; rfl
  subst h1
  cases i with
  | zero => exact ⟨c, hc, h2, fun j hj => by rw [bh5 (by omega)]; simp⟩
  | succ i =>
   obtain ⟨cs, a, b, d⟩ := w9.at h3 i (by simpa using hi)
   refine ⟨cs, a, b, fun j hj => ?_⟩
   rw [bh6 (by rw [hc, bg9]; omega), ← d j hj]
   congr 1
   rw [hc, bg9]; omega
theorem A4.append : ∀ {ks : List b7} {xs : List Value} {ls : List b7} {ys : List Value}, A4 w φ ks xs → A4 w φ ls ys → A4 w φ (ks ++ ls) (xs ++ ys)
 | [], _, _, _, h, k => by rw [show _ = [] from h]; exact k
 | e :: r, _, _, _, ⟨c, zs, h1, h2, h3⟩, k => ⟨c, zs ++ _, by rw [h1, List.append_assoc], h2, A4.append h3 k⟩
theorem A4.one {e : b7} {c : List Value} (h : H1 w φ e c) : A4 w φ [e] c := ⟨c, [], by simp, h, rfl⟩
theorem w9.append : ∀ {ks : List b6} {xs : List Value} {ls : List b6} {ys : List Value}, w9 w φ ks xs → w9 w φ ls ys → w9 w φ (ks ++ ls) (xs ++ ys)
 | [], _, _, _, h, k => by rw [show _ = [] from h]; exact k
 | e :: r, _, _, _, ⟨c, zs, h1, h2, h3⟩, k => ⟨c, zs ++ _, by rw [h1, List.append_assoc], h2, w9.append h3 k⟩
theorem w9.one {s : b6} {c : List Value} (h : H0 w φ s c) : w9 w φ [s] c := ⟨c, [], by simp, h, rfl⟩
theorem s7.open {v : Value} {ks : List b7} (h : s7 w φ v ks) : ∃ a cap, v = .slice a ks.length cap ∧ ks.length ≤ cap ∧ ks.length ≤ 9223372036854775807 ∧ cap ≤ 9223372036854775807 ∧
  ∀ i (hi : i < ks.length), ∃ b off kv, a = some ⟨b, off, none⟩ ∧ b < w.heap.size ∧ φ b ∧ w.cell? ⟨b, off + i * 3, none⟩ = some (.int .i64 ks[i].kind) ∧ w.cell? ⟨b, off + i * 3 + 1, none⟩ = some (.int .i64 ks[i].value) ∧ w.cell? ⟨b, off + i * 3 + 2, none⟩ = some kv ∧ s7 w φ kv ks[i].kids := by
 obtain ⟨xs, ⟨hl, a, cap, rfl, h1, h2, h3⟩, hx⟩ := h
 unfold maxLen at h2
 refine ⟨a, cap, rfl, h1, by omega, by omega, fun i hi => ?_⟩
 obtain ⟨b, off, rfl, hb, hf, hc⟩ := h3 (by omega)
 obtain ⟨kv, e0, e1, e2, hk⟩ := hx.at i hi
 exact ⟨b, off, kv, rfl, hb, hf, hc _ _ e0, hc _ _ e1, hc _ _ e2, hk⟩
theorem t3.open {v : Value} {ss : List b6} (h : t3 w φ v ss) : ∃ a cap, v = .slice a ss.length cap ∧ ss.length ≤ cap ∧ ss.length ≤ 9223372036854775807 ∧ cap ≤ 9223372036854775807 ∧
  ∀ i (hi : i < ss.length), ∃ b off iv vv bv ev, a = some ⟨b, off, none⟩ ∧ b < w.heap.size ∧ φ b ∧
   (w.cell? ⟨b, off + i * 11, none⟩ = some (.int .i64 ss[i].kind) ∧ w.cell? ⟨b, off + i * 11 + 1, none⟩ = some (.int .i64 ss[i].target) ∧ w.cell? ⟨b, off + i * 11 + 2, none⟩ = some (.int .i64 ss[i].index.kind) ∧ w.cell? ⟨b, off + i * 11 + 3, none⟩ = some (.int .i64 ss[i].index.value) ∧ w.cell? ⟨b, off + i * 11 + 4, none⟩ = some iv ∧
    w.cell? ⟨b, off + i * 11 + 5, none⟩ = some (.int .i64 ss[i].value.kind) ∧ w.cell? ⟨b, off + i * 11 + 6, none⟩ = some (.int .i64 ss[i].value.value) ∧ w.cell? ⟨b, off + i * 11 + 7, none⟩ = some vv ∧ w.cell? ⟨b, off + i * 11 + 8, none⟩ = some (.int .i64 ss[i].count) ∧ w.cell? ⟨b, off + i * 11 + 9, none⟩ = some bv ∧ w.cell? ⟨b, off + i * 11 + 10, none⟩ = some ev) ∧
   s7 w φ iv ss[i].index.kids ∧ s7 w φ vv ss[i].value.kids ∧ t3 w φ bv ss[i].body ∧ t3 w φ ev ss[i].els := by
 obtain ⟨xs, ⟨hl, a, cap, rfl, h1, h2, h3⟩, hx⟩ := h
 unfold maxLen at h2
 refine ⟨a, cap, rfl, h1, by omega, by omega, fun i hi => ?_⟩
 obtain ⟨b, off, rfl, hb, hf, hc⟩ := h3 (by omega)
 obtain ⟨cs, hl2, hs, hj⟩ := hx.at i hi
 obtain ⟨iv, vv, bv, ev, rfl, k1, k2, k3, k4⟩ := (H0.iff _ _).1 hs
 refine ⟨b, off, iv, vv, bv, ev, rfl, hb, hf, ⟨?_, ?_, ?_, ?_, ?_, ?_, ?_, ?_, ?_, ?_, ?_⟩, k1, k2, k3, k4⟩
 ·have := hc (i * 11 + 0) _ ((hj 0 (by omega)).trans rfl); simpa using this
 ·exact hc (i * 11 + 1) _ ((hj 1 (by omega)).trans rfl)
 ·exact hc (i * 11 + 2) _ ((hj 2 (by omega)).trans rfl)
 ·exact hc (i * 11 + 3) _ ((hj 3 (by omega)).trans rfl)
 ·exact hc (i * 11 + 4) _ ((hj 4 (by omega)).trans rfl)
 ·exact hc (i * 11 + 5) _ ((hj 5 (by omega)).trans rfl)
 ·exact hc (i * 11 + 6) _ ((hj 6 (by omega)).trans rfl)
 ·exact hc (i * 11 + 7) _ ((hj 7 (by omega)).trans rfl)
 ·exact hc (i * 11 + 8) _ ((hj 8 (by omega)).trans rfl)
 ·exact hc (i * 11 + 9) _ ((hj 9 (by omega)).trans rfl)
 ·exact hc (i * 11 + 10) _ ((hj 10 (by omega)).trans rfl)
theorem s7.nil (w : World) (φ : Nat → Prop) : s7 w φ (.slice none 0 0) [] := ⟨[], B2.nil _ _ _, rfl⟩
theorem t3.nil (w : World) (φ : Nat → Prop) : t3 w φ (.slice none 0 0) [] := ⟨[], B2.nil _ _ _, rfl⟩
end
section
mutual
def C8 (w : World) : b7 → (Nat → Prop) → List Value → Prop
 | ⟨k, n, ks⟩, S, cs => ∃ (v : Value) (xs : List Value) (S' : Nat → Prop), cs = [.int .i64 k, .int .i64 n, v] ∧ w.ownsRow 0 59 3 v ks.length xs ∧ (∀ g, v.ownBlock = some g → S g ∧ ¬ S' g) ∧ (∀ b, S' b → S b) ∧ n9 w ks S' xs
def n9 (w : World) : List b7 → (Nat → Prop) → List Value → Prop
 | [], _, xs => xs = []
 | e :: r, S, xs => ∃ (c ys : List Value) (S1 S2 : Nat → Prop), xs = c ++ ys ∧ (∀ b, S1 b → S b ∧ ¬ S2 b) ∧ (∀ b, S2 b → S b) ∧ C8 w e S1 c ∧ n9 w r S2 ys
end
def t9 (w : World) (v : Value) (ks : List b7) (S : Nat → Prop) : Prop :=
 ∃ (xs : List Value) (S' : Nat → Prop), w.ownsRow 0 59 3 v ks.length xs ∧ (∀ g, v.ownBlock = some g → S g ∧ ¬ S' g) ∧ (∀ b, S' b → S b) ∧ n9 w ks S' xs
mutual
def C6 (w : World) : b6 → (Nat → Prop) → List Value → Prop
 | ⟨k, t, i, v, c, b, e⟩, S, cs => ∃ (iv vv bv ev : Value) (xb xe : List Value) (Si Sv Sb Se Sb' Se' : Nat → Prop), cs = [.int .i64 k, .int .i64 t, .int .i64 i.kind, .int .i64 i.value, iv, .int .i64 v.kind, .int .i64 v.value, vv, .int .i64 c, bv, ev] ∧
   ((∀ b, Si b → S b ∧ ¬ Sv b ∧ ¬ Sb b ∧ ¬ Se b) ∧ (∀ b, Sv b → S b ∧ ¬ Sb b ∧ ¬ Se b) ∧ (∀ b, Sb b → S b ∧ ¬ Se b) ∧ (∀ b, Se b → S b)) ∧ t9 w iv i.kids Si ∧ t9 w vv v.kids Sv ∧
   (w.ownsRow 0 161 11 bv b.length xb ∧ (∀ g, bv.ownBlock = some g → Sb g ∧ ¬ Sb' g) ∧ (∀ b, Sb' b → Sb b) ∧ n8 w b Sb' xb) ∧
   (w.ownsRow 0 161 11 ev e.length xe ∧ (∀ g, ev.ownBlock = some g → Se g ∧ ¬ Se' g) ∧ (∀ b, Se' b → Se b) ∧ n8 w e Se' xe)
def n8 (w : World) : List b6 → (Nat → Prop) → List Value → Prop
 | [], _, xs => xs = []
 | s :: r, S, xs => ∃ (c ys : List Value) (S1 S2 : Nat → Prop), xs = c ++ ys ∧ (∀ b, S1 b → S b ∧ ¬ S2 b) ∧ (∀ b, S2 b → S b) ∧ C6 w s S1 c ∧ n8 w r S2 ys
end
def t5 (w : World) (v : Value) (ss : List b6) (S : Nat → Prop) : Prop :=
 ∃ (xs : List Value) (S' : Nat → Prop), w.ownsRow 0 161 11 v ss.length xs ∧ (∀ g, v.ownBlock = some g → S g ∧ ¬ S' g) ∧ (∀ b, S' b → S b) ∧ n8 w ss S' xs
def W0 (w : World) (v : Value) (p : l9) (S : Nat → Prop) : Prop :=
 ∃ (v1 v2 v3 : Value) (S3 : Nat → Prop), v = .agg #[v1, v2, v3] ∧ w.ownsRow 0 3 1 v1 p.vars.length (ints p.vars) ∧ w.ownsRow 0 3 1 v2 p.arrays.length (ints p.arrays) ∧ t5 w v3 p.body S3 ∧
  (∀ g, v1.ownBlock = some g → S g ∧ ¬ S3 g ∧ v2.ownBlock ≠ some g) ∧ (∀ g, v2.ownBlock = some g → S g ∧ ¬ S3 g) ∧ (∀ b, S3 b → S b)
variable {w w' : World} {S S' φ : Nat → Prop}
theorem C4 {e : TypeId} {sz : Nat} {v : Value} {n : Nat} {xs : List Value} (h : w.ownsRow 0 e sz v n xs) (hs : ∀ g, v.ownBlock = some g → w'.heap[g]? = w.heap[g]?) : w'.ownsRow 0 e sz v n xs :=
 (I5.same (I5.mk' h) hs).1
mutual
theorem C8.same : ∀ (e : b7) (S : Nat → Prop) (cs : List Value), C8 w e S cs → (∀ b, S b → b < w.heap.size → w'.heap[b]? = w.heap[b]?) → C8 w' e S cs
 | ⟨_, _, ks⟩, S, _, ⟨v, xs, S', h1, h2, h3, h4, h5⟩, hs => ⟨v, xs, S', h1, C4 h2 fun g hg => hs g (h3 g hg).1 (World.ownsRow.lt h2 g hg).2, h3, h4, n9.same ks S' xs h5 fun b hb => hs b (h4 b hb)⟩
theorem n9.same : ∀ (ks : List b7) (S : Nat → Prop) (xs : List Value), n9 w ks S xs → (∀ b, S b → b < w.heap.size → w'.heap[b]? = w.heap[b]?) → n9 w' ks S xs
 | [], _, _, h, _ => h
 | e :: r, S, _, ⟨c, ys, S1, S2, h1, h2, h3, h4, h5⟩, hs => ⟨c, ys, S1, S2, h1, h2, h3, C8.same e S1 c h4 fun b hb => hs b (h2 b hb).1, n9.same r S2 ys h5 fun b hb => hs b (h3 b hb)⟩
end
theorem t9.same {v : Value} {ks : List b7} (h : t9 w v ks S) (hs : ∀ b, S b → b < w.heap.size → w'.heap[b]? = w.heap[b]?) : t9 w' v ks S := by
 obtain ⟨xs, S', h2, h3, h4, h5⟩ := h
 exact ⟨xs, S', C4 h2 fun g hg => hs g (h3 g hg).1 (World.ownsRow.lt h2 g hg).2, h3, h4, n9.same ks S' xs h5 fun b hb => hs b (h4 b hb)⟩
mutual
theorem C6.same : ∀ (s : b6) (S : Nat → Prop) (cs : List Value), C6 w s S cs → (∀ b, S b → b < w.heap.size → w'.heap[b]? = w.heap[b]?) → C6 w' s S cs
 | ⟨_, _, _, _, _, b, e⟩, S, _, ⟨iv, vv, bv, ev, xb, xe, Si, Sv, Sb, Se, Sb', Se', h1, ⟨d1, d2, d3, d4⟩, h2, h3, ⟨b1, b2, b3, b4⟩, ⟨e1, e2, e3, e4⟩⟩, hs =>
  ⟨iv, vv, bv, ev, xb, xe, Si, Sv, Sb, Se, Sb', Se', h1, ⟨d1, d2, d3, d4⟩, h2.same fun b hb => hs b (d1 b hb).1, h3.same fun b hb => hs b (d2 b hb).1,
   ⟨C4 b1 fun g hg => hs g (d3 g (b2 g hg).1).1 (World.ownsRow.lt b1 g hg).2, b2, b3, n8.same b Sb' xb b4 fun x hx => hs x (d3 x (b3 x hx)).1⟩,
   ⟨C4 e1 fun g hg => hs g (d4 g (e2 g hg).1) (World.ownsRow.lt e1 g hg).2, e2, e3, n8.same e Se' xe e4 fun x hx => hs x (d4 x (e3 x hx))⟩⟩
theorem n8.same : ∀ (ss : List b6) (S : Nat → Prop) (xs : List Value), n8 w ss S xs → (∀ b, S b → b < w.heap.size → w'.heap[b]? = w.heap[b]?) → n8 w' ss S xs
 | [], _, _, h, _ => h
 | s :: r, S, _, ⟨c, ys, S1, S2, h1, h2, h3, h4, h5⟩, hs => ⟨c, ys, S1, S2, h1, h2, h3, C6.same s S1 c h4 fun b hb => hs b (h2 b hb).1, n8.same r S2 ys h5 fun b hb => hs b (h3 b hb)⟩
end
theorem t5.same {v : Value} {ss : List b6} (h : t5 w v ss S) (hs : ∀ b, S b → b < w.heap.size → w'.heap[b]? = w.heap[b]?) : t5 w' v ss S := by
 obtain ⟨xs, S', h2, h3, h4, h5⟩ := h
 exact ⟨xs, S', C4 h2 fun g hg => hs g (h3 g hg).1 (World.ownsRow.lt h2 g hg).2, h3, h4, n8.same ss S' xs h5 fun b hb => hs b (h4 b hb)⟩
theorem W0.same {v : Value} {p : l9} (h : W0 w v p S) (hs : ∀ b, S b → b < w.heap.size → w'.heap[b]? = w.heap[b]?) : W0 w' v p S := by
 obtain ⟨v1, v2, v3, S3, rfl, h1, h2, h3, d1, d2, d3⟩ := h
 exact ⟨v1, v2, v3, S3, rfl, C4 h1 fun g hg => hs g (d1 g hg).1 (World.ownsRow.lt h1 g hg).2, C4 h2 fun g hg => hs g (d2 g hg).1 (World.ownsRow.lt h2 g hg).2, h3.same fun b hb => hs b (d3 b hb), d1, d2, d3⟩
theorem t9.mono {v : Value} {ks : List b7} (h : t9 w v ks S) (hs : ∀ b, S b → S' b) : t9 w v ks S' := by
 obtain ⟨xs, T, h2, h3, h4, h5⟩ := h
 exact ⟨xs, T, h2, fun g hg => ⟨hs g (h3 g hg).1, (h3 g hg).2⟩, fun b hb => hs b (h4 b hb), h5⟩
theorem t5.mono {v : Value} {ss : List b6} (h : t5 w v ss S) (hs : ∀ b, S b → S' b) : t5 w v ss S' := by
 obtain ⟨xs, T, h2, h3, h4, h5⟩ := h
 exact ⟨xs, T, h2, fun g hg => ⟨hs g (h3 g hg).1, (h3 g hg).2⟩, fun b hb => hs b (h4 b hb), h5⟩
theorem W0.mono {v : Value} {p : l9} (h : W0 w v p S) (hs : ∀ b, S b → S' b) : W0 w v p S' := by
 obtain ⟨v1, v2, v3, S3, rfl, h1, h2, h3, d1, d2, d3⟩ := h
 exact ⟨v1, v2, v3, S3, rfl, h1, h2, h3, fun g hg => ⟨hs g (d1 g hg).1, (d1 g hg).2⟩, fun g hg => ⟨hs g (d2 g hg).1, (d2 g hg).2⟩, fun b hb => hs b (d3 b hb)⟩
mutual
theorem C8.read : ∀ (e : b7) (S : Nat → Prop) (cs : List Value), C8 w e S cs → (∀ b, S b → φ b) → H1 w φ e cs
 | ⟨_, _, ks⟩, S, _, ⟨v, xs, S', h1, h2, h3, h4, h5⟩, hs => ⟨v, xs, h1, D5 h2 fun g hg => hs g (h3 g hg).1, n9.read ks S' xs h5 fun b hb => hs b (h4 b hb)⟩
theorem n9.read : ∀ (ks : List b7) (S : Nat → Prop) (xs : List Value), n9 w ks S xs → (∀ b, S b → φ b) → A4 w φ ks xs
 | [], _, _, h, _ => h
 | e :: r, S, _, ⟨c, ys, S1, S2, h1, h2, h3, h4, h5⟩, hs => ⟨c, ys, h1, C8.read e S1 c h4 fun b hb => hs b (h2 b hb).1, n9.read r S2 ys h5 fun b hb => hs b (h3 b hb)⟩
end
theorem t9.read {v : Value} {ks : List b7} (h : t9 w v ks S) (hs : ∀ b, S b → φ b) : s7 w φ v ks := by
 obtain ⟨xs, T, h2, h3, h4, h5⟩ := h
 exact ⟨xs, D5 h2 fun g hg => hs g (h3 g hg).1, n9.read ks T xs h5 fun b hb => hs b (h4 b hb)⟩
mutual
theorem C6.read : ∀ (s : b6) (S : Nat → Prop) (cs : List Value), C6 w s S cs → (∀ b, S b → φ b) → H0 w φ s cs
 | ⟨_, _, _, _, _, b, e⟩, S, _, ⟨iv, vv, bv, ev, xb, xe, Si, Sv, Sb, Se, Sb', Se', h1, ⟨d1, d2, d3, d4⟩, h2, h3, ⟨b1, b2, b3, b4⟩, ⟨e1, e2, e3, e4⟩⟩, hs =>
  ⟨iv, vv, bv, ev, xb, xe, h1, h2.read fun b hb => hs b (d1 b hb).1, h3.read fun b hb => hs b (d2 b hb).1,
   D5 b1 fun g hg => hs g (d3 g (b2 g hg).1).1, n8.read b Sb' xb b4 fun x hx => hs x (d3 x (b3 x hx)).1,
   D5 e1 fun g hg => hs g (d4 g (e2 g hg).1), n8.read e Se' xe e4 fun x hx => hs x (d4 x (e3 x hx))⟩
theorem n8.read : ∀ (ss : List b6) (S : Nat → Prop) (xs : List Value), n8 w ss S xs → (∀ b, S b → φ b) → w9 w φ ss xs
 | [], _, _, h, _ => h
 | s :: r, S, _, ⟨c, ys, S1, S2, h1, h2, h3, h4, h5⟩, hs => ⟨c, ys, h1, C6.read s S1 c h4 fun b hb => hs b (h2 b hb).1, n8.read r S2 ys h5 fun b hb => hs b (h3 b hb)⟩
end
theorem t5.read {v : Value} {ss : List b6} (h : t5 w v ss S) (hs : ∀ b, S b → φ b) : t3 w φ v ss := by
 obtain ⟨xs, T, h2, h3, h4, h5⟩ := h
 exact ⟨xs, D5 h2 fun g hg => hs g (h3 g hg).1, n8.read ss T xs h5 fun b hb => hs b (h4 b hb)⟩
theorem W0.read {v : Value} {p : l9} (h : W0 w v p S) (hs : ∀ b, S b → φ b) : ae8 w φ v p := by
 obtain ⟨v1, v2, v3, S3, rfl, h1, h2, h3, d1, d2, d3⟩ := h
 exact ⟨v1, v2, v3, rfl, D5 h1 fun g hg => hs g (d1 g hg).1, D5 h2 fun g hg => hs g (d2 g hg).1, h3.read fun b hb => hs b (d3 b hb)⟩
def bc3 (R : World → (Nat → Prop) → Prop) (S : Nat → Prop) : World → (Nat → Prop) → Prop := fun w φ => R w S ∧ ∀ b, S b → b < w.heap.size ∧ φ b
theorem bc3.nice {R : World → (Nat → Prop) → Prop} (S : Nat → Prop) (hR : ∀ w w' : World, R w S → (∀ b, S b → b < w.heap.size → w'.heap[b]? = w.heap[b]?) → R w' S) : V2 (bc3 R S) :=
 fun w w' _ _ ha ⟨h1, h2⟩ => ⟨hR w w' h1 fun b hb hlt => (ha.2 b hlt (h2 b hb).2).2, fun b hb => ⟨bg6 (h2 b hb).1 ha.1, (ha.2 b (h2 b hb).1 (h2 b hb).2).1⟩⟩
theorem n9.mono : ∀ {ks : List b7} {S S' : Nat → Prop} {xs : List Value}, n9 w ks S xs → (∀ b, S b → S' b) → n9 w ks S' xs
 | [], _, _, _, h, _ => h
 | _ :: _, _, _, _, ⟨c, ys, S1, S2, h1, h2, h3, h4, h5⟩, hs => ⟨c, ys, S1, S2, h1, fun b hb => ⟨hs b (h2 b hb).1, (h2 b hb).2⟩, fun b hb => hs b (h3 b hb), h4, h5⟩
theorem n8.mono : ∀ {ks : List b6} {S S' : Nat → Prop} {xs : List Value}, n8 w ks S xs → (∀ b, S b → S' b) → n8 w ks S' xs
 | [], _, _, _, h, _ => h
 | _ :: _, _, _, _, ⟨c, ys, S1, S2, h1, h2, h3, h4, h5⟩, hs => ⟨c, ys, S1, S2, h1, fun b hb => ⟨hs b (h2 b hb).1, (h2 b hb).2⟩, fun b hb => hs b (h3 b hb), h4, h5⟩
theorem n9.snoc : ∀ {ks : List b7} {S S' T : Nat → Prop} {xs c : List Value} {e : b7}, n9 w ks S xs → C8 w e T c → (∀ b, S b → S' b ∧ ¬ T b) → (∀ b, T b → S' b) → n9 w (ks ++ [e]) S' (xs ++ c)
 | [], S, S', T, xs, c, e, h, k, d, f => by
  rw [show xs = [] from h]
  exact ⟨c, [], T, fun _ => False, by simp, fun b hb => ⟨f b hb, fun h => h⟩, fun b hb => hb.elim, k, rfl⟩
 | a :: r, S, S', T, _, c, e, ⟨x, ys, S1, S2, h1, h2, h3, h4, h5⟩, k, d, f =>
  ⟨x, ys ++ c, S1, fun b => S2 b ∨ T b, by rw [h1, List.append_assoc], fun b hb => ⟨(d b (h2 b hb).1).1, fun h => h.elim (h2 b hb).2 (d b (h2 b hb).1).2⟩, fun b hb => hb.elim (fun h => (d b (h3 b h)).1) (f b), h4,
   n9.snoc h5 k (fun b hb => ⟨.inl hb, (d b (h3 b hb)).2⟩) fun b hb => .inr hb⟩
theorem n8.snoc : ∀ {ks : List b6} {S S' T : Nat → Prop} {xs c : List Value} {e : b6}, n8 w ks S xs → C6 w e T c → (∀ b, S b → S' b ∧ ¬ T b) → (∀ b, T b → S' b) → n8 w (ks ++ [e]) S' (xs ++ c)
 | [], S, S', T, xs, c, e, h, k, d, f => by
  rw [show xs = [] from h]
  exact ⟨c, [], T, fun _ => False, by simp, fun b hb => ⟨f b hb, fun h => h⟩, fun b hb => hb.elim, k, rfl⟩
 | a :: r, S, S', T, _, c, e, ⟨x, ys, S1, S2, h1, h2, h3, h4, h5⟩, k, d, f =>
  ⟨x, ys ++ c, S1, fun b => S2 b ∨ T b, by rw [h1, List.append_assoc], fun b hb => ⟨(d b (h2 b hb).1).1, fun h => h.elim (h2 b hb).2 (d b (h2 b hb).1).2⟩, fun b hb => hb.elim (fun h => (d b (h3 b h)).1) (f b), h4,
   n8.snoc h5 k (fun b hb => ⟨.inl hb, (d b (h3 b hb)).2⟩) fun b hb => .inr hb⟩
theorem C8.iff (e : b7) (S : Nat → Prop) (cs : List Value) : C8 w e S cs ↔ ∃ kv, cs = [.int .i64 e.kind, .int .i64 e.value, kv] ∧ t9 w kv e.kids S := by
 cases e with
 | mk k n ks => exact ⟨fun ⟨v, xs, T, h1, h2⟩ => ⟨v, h1, xs, T, h2⟩, fun ⟨v, h1, xs, T, h2⟩ => ⟨v, xs, T, h1, h2⟩⟩
theorem C6.iff (s : b6) (S : Nat → Prop) (cs : List Value) : C6 w s S cs ↔ ∃ (iv vv bv ev : Value) (Si Sv Sb Se : Nat → Prop), cs = [.int .i64 s.kind, .int .i64 s.target, .int .i64 s.index.kind, .int .i64 s.index.value, iv, .int .i64 s.value.kind, .int .i64 s.value.value, vv, .int .i64 s.count, bv, ev] ∧
  ((∀ b, Si b → S b ∧ ¬ Sv b ∧ ¬ Sb b ∧ ¬ Se b) ∧ (∀ b, Sv b → S b ∧ ¬ Sb b ∧ ¬ Se b) ∧ (∀ b, Sb b → S b ∧ ¬ Se b) ∧ (∀ b, Se b → S b)) ∧ t9 w iv s.index.kids Si ∧ t9 w vv s.value.kids Sv ∧ t5 w bv s.body Sb ∧ t5 w ev s.els Se := by
 cases s with
 | mk k t i v c b e =>
  exact ⟨fun ⟨iv, vv, bv, ev, xb, xe, Si, Sv, Sb, Se, Sb', Se', h1, h2, h3, h4, h5, h6⟩ => ⟨iv, vv, bv, ev, Si, Sv, Sb, Se, h1, h2, h3, h4, ⟨xb, Sb', h5⟩, ⟨xe, Se', h6⟩⟩,
   fun ⟨iv, vv, bv, ev, Si, Sv, Sb, Se, h1, h2, h3, h4, ⟨xb, Sb', h5⟩, ⟨xe, Se', h6⟩⟩ => ⟨iv, vv, bv, ev, xb, xe, Si, Sv, Sb, Se, Sb', Se', h1, h2, h3, h4, h5, h6⟩⟩
end
theorem aq4 (ks : List b7) (k : Nat) : m6 ks = m6 (ks.take k) + m6 (ks.drop k) := by
 have := M5 (ks.take k) (ks.drop k)
 rwa [List.take_append_drop] at this
theorem H2 {ks : List b7} {k : Nat} (h : k < ks.length) : m6 (ks.take (k + 1)) = m6 (ks.take k) + (1 + B9 ks[k]) := by
 rw [s8 _ _ h, M5]
 simp [m6]
theorem aL7 (ks : List b6) (k : Nat) : t7 ks = t7 (ks.take k) + t7 (ks.drop k) := by
 have := ah8 (ks.take k) (ks.drop k)
 rwa [List.take_append_drop] at this
theorem aa5 {ks : List b6} {k : Nat} (h : k < ks.length) : t7 (ks.take (k + 1)) = t7 (ks.take k) + (1 + szS ks[k]) := by
 rw [s8 _ _ h, ah8]
 simp [t7]
def SzE (e : b7) : Prop := ∀ (φ : Nat → Prop) (v : Value) (m : Int) (w : World), I4 w φ v e → 0 ≤ m → m ≤ 1048576 →
 Calls Try.prog 55 #[v, .int .i64 m] w fun e' w' => e' = .returned (.int .i64 (m8 m (B9 e))) ∧ Below w.heap.size w w'
theorem aE0 (ks : List b7) (ih : ∀ e ∈ ks, SzE e) (φ : Nat → Prop) (v : Value) (m : Int) (w : World) (h : s7 w φ v ks) (hm : 0 ≤ m) (hm2 : m ≤ 1048576) :
    Calls Try.prog 132 #[v, .int .i64 m] w fun e w' => e = .returned (.int .i64 (m8 m (m6 ks))) ∧ Below w.heap.size w w' := by
  obtain ⟨a, cap, rfl, -, hn, -, hc⟩ := h.open
  have hlen := S0 ks
  by_cases hlt : m < (ks.length : Int)
  · have hneg := show Hid (m8 m (m6 ks) = -1) from s5 (by omega)
    clear hc h hlen
    go_enter Try.func132, Try.ntmps132
    go_wp2
    go_ret
    exact ⟨s6 hneg.out.symm, Below.refl _ _⟩
  · have HC := show Hid _ from hc
    have HL := show Hid _ from hlen
    clear hc h hlen
    go_enter Try.func132, Try.ntmps132
    go_wp2
    go_loopw [1, 5] (fun l i wr => ∃ (k : Nat) (y : Int), k ≤ ks.length ∧ i = .int .i64 k ∧ l = .int .i64 y ∧ y = m - ks.length + k - m6 (ks.take k) ∧ 0 ≤ y ∧ Below w.heap.size w wr) (fun _ i _ => ks.length - (intOf i).toNat)
    case atStart => exact ⟨0, m - ks.length, bg3 _, rfl, rfl, by simp [m6], by omega, Below.refl _ _⟩
    case round =>
      obtain ⟨k, y, hk, rfl, rfl, hye, hy, hb⟩ := hrel
      have HY := show Hid _ from hye
      have HB := show Hid _ from hb
      have hy2 : y ≤ 1048576 := by have := H2 (ks := ks) (k := k); have : k ≤ m6 (ks.take k) := by have := S0 (ks.take k); rw [bi5] at this; omega
                                   omega
      clear hye hb
      by_cases hlk : k < ks.length
      · obtain ⟨b, off, kv, rfl, hbk, hf, c0, c1, c2, hkv⟩ := HC.out k hlk
        rw [← (V9 HB.out).1 _ _ hbk] at c0 c1 c2
        have HE := show Hid (I4 wr φ (.agg #[.int .i64 ks[k].kind, .int .i64 ks[k].value, kv]) ks[k]) from ⟨kv, rfl, s7.nice _ _ _ _ _ _ (I8.below HB.out) hkv⟩
        clear hkv
        go_wp2_with fail
        refine (ih _ (bg4 hlk) φ _ y _ HE.out hy hy2).mono ?_
        rintro e w1 ⟨rfl, b1⟩
        have B1 := show Hid _ from HB.out.trans (b1.mono HB.out.size)
        by_cases hs : y < (B9 ks[k] : Int)
        · rw [s5 hs]
          have hneg := show Hid (m8 m (m6 ks) = -1) from by
            have h1 := aq4 ks (k + 1)
            have h2 := H2 hlk
            have h3 := S0 (ks.drop (k + 1))
            rw [List.length_drop] at h3
            have h4 := HY.out
            exact s5 (by omega)
          clear hs
          go_wp2_with fail
          go_ret
          exact ⟨s6 hneg.out.symm, B1.out⟩
        · rw [v8 hs]
          have hnn : ¬ (y - (B9 ks[k] : Int) < 0) := by omega
          have hlo : y - (B9 ks[k] : Int) ≤ 1048576 := by omega
          have HS := show Hid _ from hs
          clear hs
          go_wp2_with fail
          exact ⟨⟨k + 1, _, by omega, by go_num, rfl, by rw [HY.out, H2 hlk]; omega, by omega, B1.out⟩, by simp [intOf]; omega⟩
      · have hkn : k = ks.length := by omega
        subst hkn
        go_wp2_with fail
        go_ret
        exact ⟨s6 (by have h4 := HY.out; rw [bf6 (bf5 _)] at h4; rw [v8 (by omega), h4]; omega), HB.out⟩
theorem aa7 (e : b7) : SzE e := by
 refine b7.ind (P := SzE) (fun k n ks ih => ?_) e
 intro φ v m w h hm hm2
 obtain ⟨kv, rfl, hk⟩ := h
 have bx : Below w.heap.size w (w.alloc (.cells #[.int .i64 k, .int .i64 n, kv] 92)) := by go_grown
 have HS := show Hid (B9 ⟨k, n, ks⟩ = m6 ks) from rfl
 have hk1 := s7.nice _ _ _ _ _ _ (I8.below bx) hk
 have HK := show Hid _ from hk1
 have HB := show Hid _ from bx
 clear hk hk1 bx
 go_enter Try.func55, Try.ntmps55
 go_wp2_with fail
 refine (aE0 ks ih φ kv m _ HK.out hm hm2).mono ?_
 rintro e w1 ⟨rfl, b1⟩
 have B1 := show Hid _ from HB.out.trans (b1.mono HB.out.size)
 by_cases hs : m < (m6 ks : Int)
 ·rw [s5 hs]
  go_wp2_with fail
  go_ret
  exact ⟨s6 (by rw [HS.out]; exact (s5 (by omega)).symm), B1.out⟩
 ·rw [v8 hs]
  have hnn : ¬ (m - (m6 ks : Int) < 0) := by omega
  have hlo : m - (m6 ks : Int) ≤ 1048576 := by omega
  go_wp2_with fail
  go_ret
  exact ⟨s6 (by rw [HS.out]; exact (v8 (by omega)).symm), B1.out⟩
def SzS (e : b6) : Prop := ∀ (φ : Nat → Prop) (v : Value) (m : Int) (w : World), Q8 w φ v e → 0 ≤ m → m ≤ 1048576 →
 Calls Try.prog 176 #[v, .int .i64 m] w fun e' w' => e' = .returned (.int .i64 (m8 m (szS e))) ∧ Below w.heap.size w w'
theorem aa4 (ks : List b6) (ih : ∀ e ∈ ks, SzS e) (φ : Nat → Prop) (v : Value) (m : Int) (w : World) (h : t3 w φ v ks) (hm : 0 ≤ m) (hm2 : m ≤ 1048576) :
    Calls Try.prog 109 #[v, .int .i64 m] w fun e w' => e = .returned (.int .i64 (m8 m (t7 ks))) ∧ Below w.heap.size w w' := by
  obtain ⟨a, cap, rfl, -, hn, -, hc⟩ := h.open
  have hlen := R9 ks
  by_cases hlt : m < (ks.length : Int)
  · have hneg := show Hid (m8 m (t7 ks) = -1) from s5 (by omega)
    clear hc h hlen
    go_enter Try.func109, Try.ntmps109
    go_wp2
    go_ret
    exact ⟨s6 hneg.out.symm, Below.refl _ _⟩
  · have HC := show Hid _ from hc
    have HL := show Hid _ from hlen
    clear hc h hlen
    go_enter Try.func109, Try.ntmps109
    go_wp2
    go_loopw [1, 5] (fun l i wr => ∃ (k : Nat) (y : Int), k ≤ ks.length ∧ i = .int .i64 k ∧ l = .int .i64 y ∧ y = m - ks.length + k - t7 (ks.take k) ∧ 0 ≤ y ∧ Below w.heap.size w wr) (fun _ i _ => ks.length - (intOf i).toNat)
    case atStart => exact ⟨0, m - ks.length, bg3 _, rfl, rfl, by simp [t7], by omega, Below.refl _ _⟩
    case round =>
      obtain ⟨k, y, hk, rfl, rfl, hye, hy, hb⟩ := hrel
      have HY := show Hid _ from hye
      have HB := show Hid _ from hb
      have hy2 : y ≤ 1048576 := by have := aa5 (ks := ks) (k := k); have : k ≤ t7 (ks.take k) := by have := R9 (ks.take k); rw [bi5] at this; omega
                                   omega
      clear hye hb
      by_cases hlk : k < ks.length
      · obtain ⟨b, off, iv, vv, bv, ev, rfl, hbk, hf, ⟨c0, c1, c2, c3, c4, c5, c6, c7, c8, c9, c10⟩, g1, g2, g3, g4⟩ := HC.out k hlk
        rw [← (V9 HB.out).1 _ _ hbk] at c0 c1 c2 c3 c4 c5 c6 c7 c8 c9 c10
        have HE := show Hid (Q8 wr φ (.agg #[.int .i64 ks[k].kind, .int .i64 ks[k].target, .int .i64 ks[k].index.kind, .int .i64 ks[k].index.value, iv, .int .i64 ks[k].value.kind, .int .i64 ks[k].value.value, vv, .int .i64 ks[k].count, bv, ev]) ks[k]) from Q8.nice _ _ _ _ _ _ (I8.below HB.out) ⟨iv, vv, bv, ev, rfl, g1, g2, g3, g4⟩
        clear g1 g2 g3 g4
        go_wp2_with fail
        refine (ih _ (bg4 hlk) φ _ y _ HE.out hy hy2).mono ?_
        rintro e w1 ⟨rfl, b1⟩
        have B1 := show Hid _ from HB.out.trans (b1.mono HB.out.size)
        by_cases hs : y < (szS ks[k] : Int)
        · rw [s5 hs]
          have hneg := show Hid (m8 m (t7 ks) = -1) from by
            have h1 := aL7 ks (k + 1)
            have h2 := aa5 hlk
            have h3 := R9 (ks.drop (k + 1))
            rw [List.length_drop] at h3
            have h4 := HY.out
            exact s5 (by omega)
          clear hs
          go_wp2_with fail
          go_ret
          exact ⟨s6 hneg.out.symm, B1.out⟩
        · rw [v8 hs]
          have hnn : ¬ (y - (szS ks[k] : Int) < 0) := by omega
          have hlo : y - (szS ks[k] : Int) ≤ 1048576 := by omega
          have HS := show Hid _ from hs
          clear hs
          go_wp2_with fail
          exact ⟨⟨k + 1, _, by omega, by go_num, rfl, by rw [HY.out, aa5 hlk]; omega, by omega, B1.out⟩, by simp [intOf]; omega⟩
      · have hkn : k = ks.length := by omega
        subst hkn
        go_wp2_with fail
        go_ret
        exact ⟨s6 (by have h4 := HY.out; rw [bf6 (bf5 _)] at h4; rw [v8 (by omega), h4]; omega), HB.out⟩
theorem aD8 (s : b6) : SzS s := by
 refine b6.ind (P := SzS) (fun k t i v c b e ihb ihe => ?_) s
 intro φ u m w h hm hm2
 obtain ⟨iv, vv, bv, ev, rfl, g1, g2, g3, g4⟩ := h
 simp only [b6.index, b6.value, b6.body, b6.els, b6.kind, b6.target, b6.count] at g1 g2 g3 g4 ⊢
 have HS := show Hid (szS ⟨k, t, i, v, c, b, e⟩ = B9 i + B9 v + t7 b + t7 e) from rfl
 obtain ⟨W, hW, M⟩ : ∃ W, W = w.alloc (.cells #[.int .i64 k, .int .i64 t, .int .i64 i.kind, .int .i64 i.value, iv, .int .i64 v.kind, .int .i64 v.value, vv, .int .i64 c, bv, ev] 190) ∧ A0 (fun _ => True) (fun _ => True) w W [.box w.heap.size [.int .i64 k, .int .i64 t, .int .i64 i.kind, .int .i64 i.value, iv, .int .i64 v.kind, .int .i64 v.value, vv, .int .i64 c, bv, ev]] :=
  ⟨_, rfl, (A0.start fun _ _ => trivial).box _ _⟩
 have HG := show Hid (∀ W', Below w.heap.size w W' → I4 W' φ (.agg #[.int .i64 i.kind, .int .i64 i.value, iv]) i ∧ I4 W' φ (.agg #[.int .i64 v.kind, .int .i64 v.value, vv]) v ∧ t3 W' φ bv b ∧ t3 W' φ ev e) from fun W' k =>
  ⟨⟨iv, rfl, s7.nice _ _ _ _ _ _ (I8.below k) g1⟩, ⟨vv, rfl, s7.nice _ _ _ _ _ _ (I8.below k) g2⟩, t3.nice _ _ _ _ _ _ (I8.below k) g3, t3.nice _ _ _ _ _ _ (I8.below k) g4⟩
 clear g1 g2 g3 g4
 have c2 := M.c 0 2 rfl rfl
 have c3 := M.c 0 3 rfl rfl
 have c4 := M.c 0 4 rfl rfl
 rw [hW] at c2 c3 c4
 go_enter Try.func176, Try.ntmps176
 go_wp2_with fail
 rw [← hW]
 clear hW c2 c3 c4
 refine (aa7 i φ _ m _ (HG.out _ (M.below fun _ _ => trivial)).1 hm hm2).mono ?_
 rintro x w1 ⟨rfl, b1⟩
 replace M := M.call b1
 clear b1
 by_cases h1 : m < (B9 i : Int)
 ·rw [s5 h1]
  have HB := show Hid _ from M.below fun _ _ => trivial
  have HN := show Hid (m8 m (B9 i + B9 v + t7 b + t7 e) = -1) from s5 (by omega)
  clear h1 M
  go_wp2_with fail
  go_ret
  exact ⟨s6 (by rw [HS.out]; exact HN.out.symm), HB.out⟩
 have hx1 : 0 ≤ m - (B9 i : Int) := by omega
 have hy1 : m - (B9 i : Int) ≤ 1048576 := by omega
 rw [v8 h1]
 have c5 := M.c 0 5 rfl rfl
 have c6 := M.c 0 6 rfl rfl
 have c7 := M.c 0 7 rfl rfl
 clear h1
 have HM := show Hid _ from M
 clear M
 go_wp2_with fail
 have M := HM.out
 clear HM c5 c6 c7
 refine (aa7 v φ _ _ _ (HG.out _ (M.below fun _ _ => trivial)).2.1 hx1 hy1).mono ?_
 rintro x w2 ⟨rfl, b1⟩
 replace M := M.call b1
 clear b1
 by_cases h2 : m - (B9 i : Int) < (B9 v : Int)
 ·rw [s5 h2]
  have HB := show Hid _ from M.below fun _ _ => trivial
  have HN := show Hid (m8 m (B9 i + B9 v + t7 b + t7 e) = -1) from s5 (by omega)
  clear h2 M
  go_wp2_with fail
  go_ret
  exact ⟨s6 (by rw [HS.out]; exact HN.out.symm), HB.out⟩
 have hx2 : 0 ≤ m - (B9 i : Int) - (B9 v : Int) := by omega
 have hy2 : m - (B9 i : Int) - (B9 v : Int) ≤ 1048576 := by omega
 rw [v8 h2]
 have c9 := M.c 0 9 rfl rfl
 clear h2
 have HM := show Hid _ from M
 clear M
 go_wp2_with fail
 have M := HM.out
 clear HM c9
 refine (aa4 b ihb φ _ _ _ (HG.out _ (M.below fun _ _ => trivial)).2.2.1 hx2 hy2).mono ?_
 rintro x w3 ⟨rfl, b1⟩
 replace M := M.call b1
 clear b1
 by_cases h3 : m - (B9 i : Int) - (B9 v : Int) < (t7 b : Int)
 ·rw [s5 h3]
  have HB := show Hid _ from M.below fun _ _ => trivial
  have HN := show Hid (m8 m (B9 i + B9 v + t7 b + t7 e) = -1) from s5 (by omega)
  clear h3 M
  go_wp2_with fail
  go_ret
  exact ⟨s6 (by rw [HS.out]; exact HN.out.symm), HB.out⟩
 have hx3 : 0 ≤ m - (B9 i : Int) - (B9 v : Int) - (t7 b : Int) := by omega
 have hy3 : m - (B9 i : Int) - (B9 v : Int) - (t7 b : Int) ≤ 1048576 := by omega
 rw [v8 h3]
 have c10 := M.c 0 10 rfl rfl
 clear h3
 have HM := show Hid _ from M
 clear M
 go_wp2_with fail
 have M := HM.out
 clear HM c10
 refine (aa4 e ihe φ _ _ _ (HG.out _ (M.below fun _ _ => trivial)).2.2.2 hx3 hy3).mono ?_
 rintro x w4 ⟨rfl, b1⟩
 replace M := M.call b1
 clear b1
 have HB := show Hid _ from M.below fun _ _ => trivial
 clear M
 by_cases h4 : m - (B9 i : Int) - (B9 v : Int) - (t7 b : Int) < (t7 e : Int)
 ·rw [s5 h4]
  have HN := show Hid (m8 m (B9 i + B9 v + t7 b + t7 e) = -1) from s5 (by omega)
  clear h4
  go_wp2_with fail
  go_ret
  exact ⟨s6 (by rw [HS.out]; exact HN.out.symm), HB.out⟩
 ·rw [v8 h4]
  have HN := show Hid (m8 m (B9 i + B9 v + t7 b + t7 e) = m - (B9 i : Int) - (B9 v : Int) - (t7 b : Int) - (t7 e : Int)) from by unfold Hid; rw [v8 (by omega)]; omega
  have hx4 : ¬ (m - (B9 i : Int) - (B9 v : Int) - (t7 b : Int) - (t7 e : Int) < 0) := by omega
  have hy4 : m - (B9 i : Int) - (B9 v : Int) - (t7 b : Int) - (t7 e : Int) ≤ 1048576 := by omega
  clear h4
  go_wp2_with fail
  go_ret
  exact ⟨s6 (by rw [HS.out]; exact HN.out.symm), HB.out⟩
theorem ao8 (φ : Nat → Prop) (u : Value) (p : l9) (m : Int) (w : World) (h : ae8 w φ u p) (hm : 0 ≤ m) (hm2 : m ≤ 1048576) :
  Calls Try.prog 38 #[u, .int .i64 m] w fun e w' => e = .returned (.int .i64 (m8 m p.size)) ∧ Below w.heap.size w w' := by
 obtain ⟨v1, v2, v3, rfl, h1, h2, h3⟩ := h
 have HS : Hid (p.size = p.vars.length + p.arrays.length + t7 p.body) := rfl
 obtain ⟨W, hW, M⟩ : ∃ W, W = w.alloc (.cells #[v1, v2, v3] 76) ∧ A0 (fun _ => True) (fun _ => True) w W [.box w.heap.size [v1, v2, v3]] :=
  ⟨_, rfl, (A0.start fun _ _ => trivial).box _ _⟩
 have HG := show Hid (∀ W', Below w.heap.size w W' → K5 W' v1 p.vars.length 1 (ints p.vars) ∧ K5 W' v2 p.arrays.length 1 (ints p.arrays) ∧ t3 W' φ v3 p.body) from fun W' k =>
  ⟨h1.row.below k, h2.row.below k, t3.nice _ _ _ _ _ _ (I8.below k) h3⟩
 clear h1 h2 h3
 have c0 := M.c 0 0 rfl rfl
 rw [hW] at c0
 go_enter Try.func38, Try.ntmps38
 go_wp2_with fail
 rw [← hW]
 clear hW c0
 refine (aa6 v1 p.vars.length _ m _ (HG.out _ (M.below fun _ _ => trivial)).1 hm hm2).mono ?_
 rintro x w1 ⟨rfl, rfl⟩
 by_cases q1 : m < (p.vars.length : Int)
 ·rw [s5 q1]
  have HB := show Hid _ from M.below fun _ _ => trivial
  have HN := show Hid (m8 m (p.vars.length + p.arrays.length + t7 p.body) = -1) from s5 (by omega)
  clear q1 M
  go_wp2_with fail
  go_ret
  exact ⟨s6 (by rw [HS.out]; exact HN.out.symm), HB.out⟩
 have hx1 : 0 ≤ m - (p.vars.length : Int) := by omega
 have hy1 : m - (p.vars.length : Int) ≤ 1048576 := by omega
 rw [v8 q1]
 have c1 := M.c 0 1 rfl rfl
 clear q1
 have HM := show Hid _ from M
 clear M
 go_wp2_with fail
 have M := HM.out
 clear HM c1
 refine (aa6 v2 p.arrays.length _ _ _ (HG.out _ (M.below fun _ _ => trivial)).2.1 hx1 hy1).mono ?_
 rintro x w1 ⟨rfl, rfl⟩
 by_cases q2 : m - (p.vars.length : Int) < (p.arrays.length : Int)
 ·rw [s5 q2]
  have HB := show Hid _ from M.below fun _ _ => trivial
  have HN := show Hid (m8 m (p.vars.length + p.arrays.length + t7 p.body) = -1) from s5 (by omega)
  clear q2 M
  go_wp2_with fail
  go_ret
  exact ⟨s6 (by rw [HS.out]; exact HN.out.symm), HB.out⟩
 have hx2 : 0 ≤ m - (p.vars.length : Int) - (p.arrays.length : Int) := by omega
 have hy2 : m - (p.vars.length : Int) - (p.arrays.length : Int) ≤ 1048576 := by omega
 rw [v8 q2]
 have c2 := M.c 0 2 rfl rfl
 clear q2
 have HM := show Hid _ from M
 clear M
 go_wp2_with fail
 have M := HM.out
 clear HM c2
 refine (aa4 p.body (fun s _ => aD8 s) φ _ _ _ (HG.out _ (M.below fun _ _ => trivial)).2.2 hx2 hy2).mono ?_
 rintro x w3 ⟨rfl, b1⟩
 replace M := M.call b1
 clear b1
 have HB := show Hid _ from M.below fun _ _ => trivial
 clear M
 by_cases q3 : m - (p.vars.length : Int) - (p.arrays.length : Int) < (t7 p.body : Int)
 ·rw [s5 q3]
  have HN := show Hid (m8 m (p.vars.length + p.arrays.length + t7 p.body) = -1) from s5 (by omega)
  clear q3
  go_wp2_with fail
  go_ret
  exact ⟨s6 (by rw [HS.out]; exact HN.out.symm), HB.out⟩
 ·rw [v8 q3]
  have HN := show Hid (m8 m (p.vars.length + p.arrays.length + t7 p.body) = m - (p.vars.length : Int) - (p.arrays.length : Int) - (t7 p.body : Int)) from by unfold Hid; rw [v8 (by omega)]; omega
  have hx4 : ¬ (m - (p.vars.length : Int) - (p.arrays.length : Int) - (t7 p.body : Int) < 0) := by omega
  have hy4 : m - (p.vars.length : Int) - (p.arrays.length : Int) - (t7 p.body : Int) ≤ 1048576 := by omega
  clear q3
  go_wp2_with fail
  go_ret
  exact ⟨s6 (by rw [HS.out]; exact HN.out.symm), HB.out⟩
theorem ba7 : (Try.prog.info? 59).map (fun i => (i.zero, i.size, i.bytes)) = some (some (.agg #[.int .i64 0, .int .i64 0, .slice none 0 0]), 3, 40) := by kernel_rfl
theorem O1 {w : World} {g p : Nat} {us : List Value} {b : Nat} (hb : b < w.heap.size) (hne : b ≠ g) : (World.setFrom w g p us).heap[b]? = w.heap[b]? :=
 (W6.setFrom us (W6.refl g (g + 1) w) (bf5 _) (Nat.lt_succ_self _)).block b hb (by omega)
def ToE (e : b7) : Prop := ∀ (φ : Nat → Prop) (v : Value) (w : World), I4 w φ v e → B9 e ≤ 1048576 →
 Calls Try.prog 57 #[v] w fun x w' => ∃ a c S, x = .returned (.agg #[.int .i64 e.kind, .int .i64 e.value, .slice a e.kids.length c]) ∧ t9 w' (.slice a e.kids.length c) e.kids S ∧ (∀ b, S b → w.heap.size ≤ b ∧ b < w'.heap.size) ∧ Below w.heap.size w w'
theorem aD6 (ks : List b7) (ih : ∀ e ∈ ks, ToE e) (φ : Nat → Prop) (v : Value) (w : World) (h : s7 w φ v ks) (hb : m6 ks ≤ 1048576) :
  Calls Try.prog 134 #[v] w fun x w' => ∃ a c S, x = .returned (.slice a ks.length c) ∧ t9 w' (.slice a ks.length c) ks S ∧ (∀ b, S b → w.heap.size ≤ b ∧ b < w'.heap.size) ∧ Below w.heap.size w w' := by
 obtain ⟨a1, c1, rfl, -, hm1, -, hc1⟩ := h.open
 have hlen := S0 ks
 have HC := show Hid _ from hc1
 clear h hc1
 have hmk := X7 (P := Try.prog) (t := 57) Try.underlying57 ba7 rfl (by omega) ks.length (by omega) hm1
 have hown := X1 w (Value.agg #[.int .i64 0, .int .i64 0, .slice none 0 0]).cells.toList ks.length 3 59 rfl hm1
 have HB := show Hid _ from hb
 have HLN := show Hid _ from hlen
 clear hb hlen
 go_enter Try.func134, Try.ntmps134
 go_wp2_with fail
 clear hmk
 go_loopw [4] (fun i wr => ∃ (k : Nat) (ys : List Value), k ≤ ks.length ∧ i = .int .i64 k ∧ I5 wr w.heap.size (w.heap.size + 1) 59 3 (.slice (some ⟨w.heap.size, 0, none⟩) ks.length ks.length) ks.length ys ∧ n9 wr (ks.take k) (fun b => w.heap.size < b ∧ b < wr.heap.size) (ys.take (k * 3)) ∧ Below w.heap.size w wr) (fun i _ => ks.length - (intOf i).toNat)
 case atStart => exact ⟨0, _, bg3 _, rfl, hown, by simp [n9], (Below.refl _ _).alloc (bf5 _) _⟩
 case round =>
  obtain ⟨k, ys, hk, rfl, ho, ht, hbw⟩ := hrel
  have HT := show Hid _ from ht
  clear ht hown
  by_cases hlt : k < ks.length
  ·obtain ⟨b1, o1, kv, rfl, hb1, hf, x0, x1, x2, hkv⟩ := HC.out k hlt
   rw [← (V9 hbw).1 _ _ hb1] at x0 x1 x2
   have HY := show Hid (ys.length = ks.length * 3) from ho.1.1
   have HE := show Hid (I4 wr φ (.agg #[.int .i64 ks[k].kind, .int .i64 ks[k].value, kv]) ks[k]) from ⟨kv, rfl, s7.nice _ _ _ _ _ _ (I8.below hbw) hkv⟩
   clear hkv
   go_wp2_with fail
   refine (ih _ (bg4 hlt) φ _ _ HE.out (by have h1 := aY2 (bg4 hlt); have h2 := HB.out; omega)).mono ?_
   rintro e w1 ⟨ra, rc, S1, rfl, hO, hS, hbc⟩
   have ho1 := ho.keep hbc (by have := ho.lt _ rfl; omega)
   have hin : ∀ j, j < 3 → k * 3 + j < ys.length := fun j hj => by rw [HY.out]; omega
   obtain ⟨g, cap, hv, hg1, hg2, hg3, f0, u0, y0⟩ := ho1.at (hin 0 (by omega))
   cases hv
   obtain ⟨g, cap, hv, -, -, -, f1, u1, y1⟩ := ho1.at (hin 1 (by omega))
   cases hv
   obtain ⟨g, cap, hv, -, -, -, f2, u2, y2⟩ := ho1.at (hin 2 (by omega))
   cases hv
   simp only [bi2] at f0 y0
   have hg4 : w.heap.size < w1.heap.size := hg3
   have HO := show Hid _ from hO
   have HS := show Hid _ from hS
   have hsz0 := hbw.size
   have hszr := hbc.size
   have hgr : w.heap.size < wr.heap.size := (ho.lt _ rfl).2.2
   clear hin hO hS
   go_wp2_with fail
   have hb3 := aa0 (p := k * 3) [.int .i64 ks[k].kind, .int .i64 ks[k].value, (.slice ra ks[k].kids.length rc)] (hbw.trans (hbc.mono hbw.size)) (bf5 w.heap.size)
   have hsz := (W6.setFrom (p := k * 3) [.int .i64 ks[k].kind, .int .i64 ks[k].value, (.slice ra ks[k].kids.length rc)] (W6.refl w.heap.size (w.heap.size + 1) w1) (bf5 _) (Nat.lt_succ_self _)).size
   refine ⟨⟨k + 1, _, by omega, by go_num, ho1.setFrom [.int .i64 ks[k].kind, .int .i64 ks[k].value, (.slice ra ks[k].kids.length rc)] (by simp; rw [HY.out]; omega), ?_, hb3⟩, by simp [intOf]; omega⟩
   rw [bg9, s8 _ _ hlt]
   rw [show (setFrom ys (k * 3) [.int .i64 ks[k].kind, .int .i64 ks[k].value, (.slice ra ks[k].kids.length rc)]).take (k * 3 + 3) = ys.take (k * 3) ++ [.int .i64 ks[k].kind, .int .i64 ks[k].value, (.slice ra ks[k].kids.length rc)] from O0 [_, _, _] _ _ (by simp; rw [HY.out]; omega)]
   refine n9.snoc (S := fun b => w.heap.size < b ∧ b < wr.heap.size) (T := S1) (n9.same _ _ _ HT.out fun b hbb hlt' => ?_) ((C8.iff _ _ _).2 ⟨.slice ra ks[k].kids.length rc, rfl, t9.same HO.out fun b hbb hlt' => ?_⟩) (fun b hbb => ⟨⟨hbb.1, ?_⟩, fun h1 => ?_⟩) fun b hbb => ⟨?_, ?_⟩
   ·obtain ⟨p1, p2⟩ : w.heap.size < b ∧ b < wr.heap.size := hbb
    exact (O1 (p := k * 3) (us := [.int .i64 ks[k].kind, .int .i64 ks[k].value, (.slice ra ks[k].kids.length rc)]) (by omega) (by omega)).trans (hbc.block b p2)
   ·obtain ⟨p1, p2⟩ : wr.heap.size ≤ b ∧ b < w1.heap.size := HS.out b hbb
    exact O1 (p := k * 3) (us := [.int .i64 ks[k].kind, .int .i64 ks[k].value, (.slice ra ks[k].kids.length rc)]) hlt' (by omega)
   ·exact bg6 (bg6 hbb.2 hszr) hsz
   ·have h2 : wr.heap.size ≤ b ∧ b < w1.heap.size := HS.out b h1
    have h3 : b < wr.heap.size := hbb.2
    omega
   ·have h2 : wr.heap.size ≤ b ∧ b < w1.heap.size := HS.out b hbb
    show w.heap.size < b
    omega
   ·exact bg6 (HS.out b hbb).2 hsz
  ·have hkn : k = ks.length := by omega
   subst hkn
   go_wp2_with fail
   go_ret
   have hl : ys.take (ks.length * 3) = ys := bf6 (by rw [ho.1.1]; exact bf5 _)
   have ht := HT.out
   rw [hl, bf6 (bf5 _)] at ht
   exact ⟨_, _, fun b => w.heap.size ≤ b ∧ b < wr.heap.size, rfl, ⟨ys, fun b => w.heap.size < b ∧ b < wr.heap.size, D2 ho.1 (bg3 _), fun g hg => by cases hg; exact ⟨⟨bf5 _, (ho.lt _ rfl).2.2⟩, fun h => absurd h.1 (Nat.lt_irrefl _)⟩, fun b hb => ⟨by omega, hb.2⟩, ht⟩, fun b hb => hb, hbw⟩
theorem aa3 (e : b7) : ToE e := by
 refine b7.ind (P := ToE) (fun k n ks ih => ?_) e
 intro φ v w h hb
 obtain ⟨kv, rfl, hk⟩ := h
 simp only [b7.kind, b7.value, b7.kids] at hk ⊢
 obtain ⟨W, hW, M⟩ : ∃ W, W = (((w.alloc (.cells #[.int .i64 k, .int .i64 n, kv] 92)).alloc (.cells #[.int .i64 0, .int .i64 0, .slice none 0 0] 59)).alloc (.cells #[.int .i64 k, .int .i64 n, .slice none 0 0] 59)) ∧ A0 (fun _ => True) (fun _ => True) w W [.box w.heap.size [.int .i64 k, .int .i64 n, kv], .box (w.heap.size + 1) [.int .i64 0, .int .i64 0, .slice none 0 0], .box (w.heap.size + 1 + 1) [.int .i64 k, .int .i64 n, .slice none 0 0]] :=
  ⟨_, rfl, (((A0.start fun _ _ => trivial).box _ _).box' _ _ (by simp)).box' _ _ (by simp)⟩
 have HK := show Hid _ from s7.nice _ _ _ _ _ _ (I8.below (M.below fun _ _ => trivial)) hk
 have sW : W.heap.size = w.heap.size + 1 + 1 + 1 := by rw [hW]; simp
 have HM := show Hid _ from M
 have HS := show Hid _ from sW
 clear hk M sW
 go_enter Try.func57, Try.ntmps57
 go_wp2_with fail
 rw [← hW]
 clear hW
 refine (aD6 ks ih φ kv _ HK.out hb).mono ?_
 rintro x w1 ⟨ra, rc, S1, rfl, hO, hS, b1⟩
 have M := HM.out.callO b1 (S := S1) (R := fun w => t9 w (.slice ra ks.length rc) ks S1) (fun w w' h hs => t9.same h hs) hO hS
 clear HM b1 hO
 have c0 := M.c 2 0 rfl rfl
 have c1 := M.c 2 1 rfl rfl
 have c2 := M.c 2 2 rfl rfl
 have d0 := M.c 1 0 rfl rfl
 have d1 := M.c 1 1 rfl rfl
 have d2 := M.c 1 2 rfl rfl
 have f1 := M.f 1 rfl
 have f2 := M.f 2 rfl
 have M2 := (((M.set 2 rfl 2 (.slice ra ks.length rc)).set 1 rfl 0 (.int .i64 k)).set 1 rfl 1 (.int .i64 n)).set 1 rfl 2 (.slice ra ks.length rc)
 have HM2 := show Hid _ from M2
 have HSS := show Hid _ from hS
 clear M M2 hS
 go_wp2_with fail
 have M2 := HM2.out
 have r0 : World.cell? _ ⟨w.heap.size + 1, 0, none⟩ = some (.int .i64 k) := M2.c 1 0 rfl rfl
 have r1 : World.cell? _ ⟨w.heap.size + 1, 1, none⟩ = some (.int .i64 n) := M2.c 1 1 rfl rfl
 have r2 : World.cell? _ ⟨w.heap.size + 1, 2, none⟩ = some (.slice ra ks.length rc) := M2.c 1 2 rfl rfl
 refine bodyPost_ret (v := .agg #[.int .i64 k, .int .i64 n, .slice ra ks.length rc]) (by simp [results, Try.results57, go_sem, r0, r1, r2]) rfl ⟨ra, rc, S1, rfl, M2.o 3 rfl, fun b hbb => ⟨?_, M2.lt (bf7 (i := 3) rfl) hbb⟩, M2.below fun _ _ => trivial⟩
 have := HSS.out b hbb
 have := HS.out
 omega
theorem ba5 : (Try.prog.info? 161).map (fun i => (i.zero, i.size, i.bytes)) = some (some (.agg #[.int .i64 0, .int .i64 0, .int .i64 0, .int .i64 0, .slice none 0 0, .int .i64 0, .int .i64 0, .slice none 0 0, .int .i64 0, .slice none 0 0, .slice none 0 0]), 11, 152) := by kernel_rfl
def aI3 (s : b6) (ai : Option Addr) (ci : Nat) (av : Option Addr) (cv : Nat) (ab : Option Addr) (cb : Nat) (ae : Option Addr) (ce : Nat) : List Value :=
 [.int .i64 s.kind, .int .i64 s.target, .int .i64 s.index.kind, .int .i64 s.index.value, .slice ai s.index.kids.length ci, .int .i64 s.value.kind, .int .i64 s.value.value, .slice av s.value.kids.length cv, .int .i64 s.count, .slice ab s.body.length cb, .slice ae s.els.length ce]
def ToS (s : b6) : Prop := ∀ (φ : Nat → Prop) (v : Value) (w : World), Q8 w φ v s → szS s ≤ 1048576 →
 Calls Try.prog 178 #[v] w fun x w' => ∃ ai ci av cv ab cb ae ce S, x = .returned (.agg #[.int .i64 s.kind, .int .i64 s.target, .int .i64 s.index.kind, .int .i64 s.index.value, .slice ai s.index.kids.length ci, .int .i64 s.value.kind, .int .i64 s.value.value, .slice av s.value.kids.length cv, .int .i64 s.count, .slice ab s.body.length cb, .slice ae s.els.length ce]) ∧
  C6 w' s S (aI3 s ai ci av cv ab cb ae ce) ∧ (∀ b, S b → w.heap.size ≤ b ∧ b < w'.heap.size) ∧ Below w.heap.size w w'
theorem aa2 (ks : List b6) (ih : ∀ e ∈ ks, ToS e) (φ : Nat → Prop) (v : Value) (w : World) (h : t3 w φ v ks) (hb : t7 ks ≤ 1048576) :
  Calls Try.prog 114 #[v] w fun x w' => ∃ a c S, x = .returned (.slice a ks.length c) ∧ t5 w' (.slice a ks.length c) ks S ∧ (∀ b, S b → w.heap.size ≤ b ∧ b < w'.heap.size) ∧ Below w.heap.size w w' := by
 obtain ⟨a1, c1, rfl, -, hm1, -, hc1⟩ := h.open
 have hlen := R9 ks
 have HC := show Hid _ from hc1
 clear h hc1
 have hmk := X7 (P := Try.prog) (t := 24) Try.underlying24 ba5 rfl (by omega) ks.length (by omega) hm1
 have hown := X1 w (Value.agg #[.int .i64 0, .int .i64 0, .int .i64 0, .int .i64 0, .slice none 0 0, .int .i64 0, .int .i64 0, .slice none 0 0, .int .i64 0, .slice none 0 0, .slice none 0 0]).cells.toList ks.length 11 161 rfl hm1
 have HB := show Hid _ from hb
 have HLN := show Hid _ from hlen
 clear hb hlen
 go_enter Try.func114, Try.ntmps114
 go_wp2_with fail
 clear hmk
 go_loopw [4] (fun i wr => ∃ (k : Nat) (ys : List Value), k ≤ ks.length ∧ i = .int .i64 k ∧ I5 wr w.heap.size (w.heap.size + 1) 161 11 (.slice (some ⟨w.heap.size, 0, none⟩) ks.length ks.length) ks.length ys ∧ n8 wr (ks.take k) (fun b => w.heap.size < b ∧ b < wr.heap.size) (ys.take (k * 11)) ∧ Below w.heap.size w wr) (fun i _ => ks.length - (intOf i).toNat)
 case atStart => exact ⟨0, _, bg3 _, rfl, hown, by simp [n8], (Below.refl _ _).alloc (bf5 _) _⟩
 case round =>
  obtain ⟨k, ys, hk, rfl, ho, ht, hbw⟩ := hrel
  have HT := show Hid _ from ht
  clear ht hown
  by_cases hlt : k < ks.length
  ·obtain ⟨b1, o1, iv, vv, bv, ev, rfl, hb1, hf, ⟨x0, x1, x2, x3, x4, x5, x6, x7, x8, x9, x10⟩, k1, k2, k3, k4⟩ := HC.out k hlt
   rw [← (V9 hbw).1 _ _ hb1] at x0 x1 x2 x3 x4 x5 x6 x7 x8 x9 x10
   have HY := show Hid (ys.length = ks.length * 11) from ho.1.1
   have HE := show Hid (Q8 wr φ (.agg #[.int .i64 ks[k].kind, .int .i64 ks[k].target, .int .i64 ks[k].index.kind, .int .i64 ks[k].index.value, iv, .int .i64 ks[k].value.kind, .int .i64 ks[k].value.value, vv, .int .i64 ks[k].count, bv, ev]) ks[k]) from Q8.nice _ _ _ _ _ _ (I8.below hbw) ⟨iv, vv, bv, ev, rfl, k1, k2, k3, k4⟩
   clear k1 k2 k3 k4
   go_wp2_with fail
   refine (ih _ (bg4 hlt) φ _ _ HE.out (by have h1 := aI2 (bg4 hlt); have h2 := HB.out; omega)).mono ?_
   rintro e w1 ⟨ai, ci, av, cv, ab, cb, ae, ce, S1, rfl, hO, hS, hbc⟩
   have ho1 := ho.keep hbc (by have := ho.lt _ rfl; omega)
   have hin : ∀ j, j < 11 → k * 11 + j < ys.length := fun j hj => by rw [HY.out]; omega
   obtain ⟨g, cap, hv, hg1, hg2, hg3, f0, u0, y0⟩ := ho1.at (hin 0 (by omega))
   cases hv
   obtain ⟨g, cap, hv, -, -, -, f1, u1, y1⟩ := ho1.at (hin 1 (by omega))
   cases hv
   obtain ⟨g, cap, hv, -, -, -, f2, u2, y2⟩ := ho1.at (hin 2 (by omega))
   cases hv
   obtain ⟨g, cap, hv, -, -, -, f3, u3, y3⟩ := ho1.at (hin 3 (by omega))
   cases hv
   obtain ⟨g, cap, hv, -, -, -, f4, u4, y4⟩ := ho1.at (hin 4 (by omega))
   cases hv
   obtain ⟨g, cap, hv, -, -, -, f5, u5, y5⟩ := ho1.at (hin 5 (by omega))
   cases hv
   obtain ⟨g, cap, hv, -, -, -, f6, u6, y6⟩ := ho1.at (hin 6 (by omega))
   cases hv
   obtain ⟨g, cap, hv, -, -, -, f7, u7, y7⟩ := ho1.at (hin 7 (by omega))
   cases hv
   obtain ⟨g, cap, hv, -, -, -, f8, u8, y8⟩ := ho1.at (hin 8 (by omega))
   cases hv
   obtain ⟨g, cap, hv, -, -, -, f9, u9, y9⟩ := ho1.at (hin 9 (by omega))
   cases hv
   obtain ⟨g, cap, hv, -, -, -, f10, u10, y10⟩ := ho1.at (hin 10 (by omega))
   cases hv
   simp only [bi2] at f0 y0
   have hg4 : w.heap.size < w1.heap.size := hg3
   have HO := show Hid _ from hO
   have HS := show Hid _ from hS
   have hsz0 := hbw.size
   have hszr := hbc.size
   have hgr : w.heap.size < wr.heap.size := (ho.lt _ rfl).2.2
   clear hin hO hS
   go_wp2_with fail
   have hb3 := aa0 (p := k * 11) [.int .i64 ks[k].kind, .int .i64 ks[k].target, .int .i64 ks[k].index.kind, .int .i64 ks[k].index.value, .slice ai ks[k].index.kids.length ci, .int .i64 ks[k].value.kind, .int .i64 ks[k].value.value, .slice av ks[k].value.kids.length cv, .int .i64 ks[k].count, .slice ab ks[k].body.length cb, .slice ae ks[k].els.length ce] (hbw.trans (hbc.mono hbw.size)) (bf5 w.heap.size)
   have hsz := (W6.setFrom (p := k * 11) [.int .i64 ks[k].kind, .int .i64 ks[k].target, .int .i64 ks[k].index.kind, .int .i64 ks[k].index.value, .slice ai ks[k].index.kids.length ci, .int .i64 ks[k].value.kind, .int .i64 ks[k].value.value, .slice av ks[k].value.kids.length cv, .int .i64 ks[k].count, .slice ab ks[k].body.length cb, .slice ae ks[k].els.length ce] (W6.refl w.heap.size (w.heap.size + 1) w1) (bf5 _) (Nat.lt_succ_self _)).size
   refine ⟨⟨k + 1, _, by omega, by go_num, ho1.setFrom [.int .i64 ks[k].kind, .int .i64 ks[k].target, .int .i64 ks[k].index.kind, .int .i64 ks[k].index.value, .slice ai ks[k].index.kids.length ci, .int .i64 ks[k].value.kind, .int .i64 ks[k].value.value, .slice av ks[k].value.kids.length cv, .int .i64 ks[k].count, .slice ab ks[k].body.length cb, .slice ae ks[k].els.length ce] (by simp; rw [HY.out]; omega), ?_, hb3⟩, by simp [intOf]; omega⟩
   rw [bg9, s8 _ _ hlt]
   rw [show (setFrom ys (k * 11) [.int .i64 ks[k].kind, .int .i64 ks[k].target, .int .i64 ks[k].index.kind, .int .i64 ks[k].index.value, .slice ai ks[k].index.kids.length ci, .int .i64 ks[k].value.kind, .int .i64 ks[k].value.value, .slice av ks[k].value.kids.length cv, .int .i64 ks[k].count, .slice ab ks[k].body.length cb, .slice ae ks[k].els.length ce]).take (k * 11 + 11) = ys.take (k * 11) ++ [.int .i64 ks[k].kind, .int .i64 ks[k].target, .int .i64 ks[k].index.kind, .int .i64 ks[k].index.value, .slice ai ks[k].index.kids.length ci, .int .i64 ks[k].value.kind, .int .i64 ks[k].value.value, .slice av ks[k].value.kids.length cv, .int .i64 ks[k].count, .slice ab ks[k].body.length cb, .slice ae ks[k].els.length ce] from O0 [_, _, _, _, _, _, _, _, _, _, _] _ _ (by simp; rw [HY.out]; omega)]
   refine n8.snoc (S := fun b => w.heap.size < b ∧ b < wr.heap.size) (T := S1) (n8.same _ _ _ HT.out fun b hbb hlt' => ?_) (C6.same _ _ _ HO.out fun b hbb hlt' => ?_) (fun b hbb => ⟨⟨hbb.1, ?_⟩, fun h1 => ?_⟩) fun b hbb => ⟨?_, ?_⟩
   ·obtain ⟨p1, p2⟩ : w.heap.size < b ∧ b < wr.heap.size := hbb
    exact (O1 (p := k * 11) (us := [.int .i64 ks[k].kind, .int .i64 ks[k].target, .int .i64 ks[k].index.kind, .int .i64 ks[k].index.value, .slice ai ks[k].index.kids.length ci, .int .i64 ks[k].value.kind, .int .i64 ks[k].value.value, .slice av ks[k].value.kids.length cv, .int .i64 ks[k].count, .slice ab ks[k].body.length cb, .slice ae ks[k].els.length ce]) (by omega) (by omega)).trans (hbc.block b p2)
   ·obtain ⟨p1, p2⟩ : wr.heap.size ≤ b ∧ b < w1.heap.size := HS.out b hbb
    exact O1 (p := k * 11) (us := [.int .i64 ks[k].kind, .int .i64 ks[k].target, .int .i64 ks[k].index.kind, .int .i64 ks[k].index.value, .slice ai ks[k].index.kids.length ci, .int .i64 ks[k].value.kind, .int .i64 ks[k].value.value, .slice av ks[k].value.kids.length cv, .int .i64 ks[k].count, .slice ab ks[k].body.length cb, .slice ae ks[k].els.length ce]) hlt' (by omega)
   ·exact bg6 (bg6 hbb.2 hszr) hsz
   ·have h2 : wr.heap.size ≤ b ∧ b < w1.heap.size := HS.out b h1
    have h3 : b < wr.heap.size := hbb.2
    omega
   ·have h2 : wr.heap.size ≤ b ∧ b < w1.heap.size := HS.out b hbb
    show w.heap.size < b
    omega
   ·exact bg6 (HS.out b hbb).2 hsz
  ·have hkn : k = ks.length := by omega
   subst hkn
   go_wp2_with fail
   go_ret
   have hl : ys.take (ks.length * 11) = ys := bf6 (by rw [ho.1.1]; exact bf5 _)
   have ht := HT.out
   rw [hl, bf6 (bf5 _)] at ht
   exact ⟨_, _, fun b => w.heap.size ≤ b ∧ b < wr.heap.size, rfl, ⟨ys, fun b => w.heap.size < b ∧ b < wr.heap.size, D2 ho.1 (bg3 _), fun g hg => by cases hg; exact ⟨⟨bf5 _, (ho.lt _ rfl).2.2⟩, fun h => absurd h.1 (Nat.lt_irrefl _)⟩, fun b hb => ⟨by omega, hb.2⟩, ht⟩, fun b hb => hb, hbw⟩
theorem aD5 (s : b6) : ToS s := by
 refine b6.ind (P := ToS) (fun k t i v c b e ihb ihe => ?_) s
 intro φ u w h hb
 obtain ⟨iv, vv, bv, ev, rfl, g1, g2, g3, g4⟩ := h
 have hsz : B9 i + B9 v + t7 b + t7 e ≤ 1048576 := hb
 simp only [b6.index, b6.value, b6.body, b6.els, b6.kind, b6.target, b6.count, aI3] at g1 g2 g3 g4 ⊢
 obtain ⟨W, hW, M⟩ : ∃ W, W = (((w.alloc (.cells #[.int .i64 k, .int .i64 t, .int .i64 i.kind, .int .i64 i.value, iv, .int .i64 v.kind, .int .i64 v.value, vv, .int .i64 c, bv, ev] 190)).alloc (.cells #[.int .i64 0, .int .i64 0, .int .i64 0, .int .i64 0, .slice none 0 0, .int .i64 0, .int .i64 0, .slice none 0 0, .int .i64 0, .slice none 0 0, .slice none 0 0] 161)).alloc (.cells #[.int .i64 k, .int .i64 t, .int .i64 0, .int .i64 0, .slice none 0 0, .int .i64 0, .int .i64 0, .slice none 0 0, .int .i64 0, .slice none 0 0, .slice none 0 0] 161)) ∧ A0 (fun _ => True) (fun _ => True) w W [.box w.heap.size [.int .i64 k, .int .i64 t, .int .i64 i.kind, .int .i64 i.value, iv, .int .i64 v.kind, .int .i64 v.value, vv, .int .i64 c, bv, ev], .box (w.heap.size + 1) [.int .i64 0, .int .i64 0, .int .i64 0, .int .i64 0, .slice none 0 0, .int .i64 0, .int .i64 0, .slice none 0 0, .int .i64 0, .slice none 0 0, .slice none 0 0], .box (w.heap.size + 1 + 1) [.int .i64 k, .int .i64 t, .int .i64 0, .int .i64 0, .slice none 0 0, .int .i64 0, .int .i64 0, .slice none 0 0, .int .i64 0, .slice none 0 0, .slice none 0 0]] :=
  ⟨_, rfl, (((A0.start fun _ _ => trivial).box _ _).box' _ _ (by simp)).box' _ _ (by simp)⟩
 have HG := show Hid (∀ W', Below w.heap.size w W' → I4 W' φ (.agg #[.int .i64 i.kind, .int .i64 i.value, iv]) i ∧ I4 W' φ (.agg #[.int .i64 v.kind, .int .i64 v.value, vv]) v ∧ t3 W' φ bv b ∧ t3 W' φ ev e) from fun W' k =>
  ⟨⟨iv, rfl, s7.nice _ _ _ _ _ _ (I8.below k) g1⟩, ⟨vv, rfl, s7.nice _ _ _ _ _ _ (I8.below k) g2⟩, t3.nice _ _ _ _ _ _ (I8.below k) g3, t3.nice _ _ _ _ _ _ (I8.below k) g4⟩
 clear g1 g2 g3 g4
 have c2 := M.c 0 2 rfl rfl
 have c3 := M.c 0 3 rfl rfl
 have c4 := M.c 0 4 rfl rfl
 rw [hW] at c2 c3 c4
 have HZ := show Hid _ from hsz
 have HM := show Hid _ from M
 clear M hsz hb
 go_enter Try.func178, Try.ntmps178
 go_wp2_with fail
 rw [← hW]
 have M := HM.out
 clear hW HM c2 c3 c4
 refine (aa3 i φ _ _ (HG.out _ (M.below fun _ _ => trivial)).1 (by have := HZ.out; omega)).mono ?_
 rintro x w1 ⟨ai, ci, S1, rfl, hO, hS, b1⟩
 replace M := M.callO b1 (S := S1) (R := fun w => t9 w (.slice ai i.kids.length ci) i.kids S1) (fun w w' h hs => t9.same h hs) hO (fun b hb => hS b hb)
 clear hO hS b1
 have q2_2 := M.c 2 2 rfl rfl
 have q2_3 := M.c 2 3 rfl rfl
 have q2_4 := M.c 2 4 rfl rfl
 have q0_5 := M.c 0 5 rfl rfl
 have q0_6 := M.c 0 6 rfl rfl
 have q0_7 := M.c 0 7 rfl rfl
 have fo := M.f 2 rfl
 have M2 := (((M.set 2 rfl 2 (.int .i64 i.kind)).set 2 rfl 3 (.int .i64 i.value)).set 2 rfl 4 (.slice ai i.kids.length ci))
 have HM2 := show Hid _ from M2
 clear M M2
 go_wp2_with fail
 have M := HM2.out
 clear HM2 fo q2_2 q2_3 q2_4 q0_5 q0_6 q0_7
 refine (aa3 v φ _ _ (HG.out _ (M.below fun _ _ => trivial)).2.1 (by have := HZ.out; omega)).mono ?_
 rintro x w1 ⟨av, cv, S2, rfl, hO, hS, b1⟩
 replace M := M.callO b1 (S := S2) (R := fun w => t9 w (.slice av v.kids.length cv) v.kids S2) (fun w w' h hs => t9.same h hs) hO (fun b hb => hS b hb)
 clear hO hS b1
 have q2_5 := M.c 2 5 rfl rfl
 have q2_6 := M.c 2 6 rfl rfl
 have q2_7 := M.c 2 7 rfl rfl
 have q0_8 := M.c 0 8 rfl rfl
 have q2_8 := M.c 2 8 rfl rfl
 have q0_9 := M.c 0 9 rfl rfl
 have fo := M.f 2 rfl
 have M2 := ((((M.set 2 rfl 5 (.int .i64 v.kind)).set 2 rfl 6 (.int .i64 v.value)).set 2 rfl 7 (.slice av v.kids.length cv)).set 2 rfl 8 (.int .i64 c))
 have HM2 := show Hid _ from M2
 clear M M2
 go_wp2_with fail
 have M := HM2.out
 clear HM2 fo q2_5 q2_6 q2_7 q0_8 q2_8 q0_9
 refine (aa2 b ihb φ _ _ (HG.out _ (M.below fun _ _ => trivial)).2.2.1 (by have := HZ.out; omega)).mono ?_
 rintro x w1 ⟨ab, cb, S3, rfl, hO, hS, b1⟩
 replace M := M.callO b1 (S := S3) (R := fun w => t5 w (.slice ab b.length cb) b S3) (fun w w' h hs => t5.same h hs) hO (fun b hb => hS b hb)
 clear hO hS b1
 have q2_9 := M.c 2 9 rfl rfl
 have q0_10 := M.c 0 10 rfl rfl
 have fo := M.f 2 rfl
 have M2 := (M.set 2 rfl 9 (.slice ab b.length cb))
 have HM2 := show Hid _ from M2
 clear M M2
 go_wp2_with fail
 have M := HM2.out
 clear HM2 fo q2_9 q0_10
 refine (aa2 e ihe φ _ _ (HG.out _ (M.below fun _ _ => trivial)).2.2.2 (by have := HZ.out; omega)).mono ?_
 rintro x w1 ⟨ae, ce, S4, rfl, hO, hS, b1⟩
 replace M := M.callO b1 (S := S4) (R := fun w => t5 w (.slice ae e.length ce) e S4) (fun w w' h hs => t5.same h hs) hO (fun b hb => hS b hb)
 clear hO hS b1
 replace M := M.as [.box w.heap.size [.int .i64 k, .int .i64 t, .int .i64 i.kind, .int .i64 i.value, iv, .int .i64 v.kind, .int .i64 v.value, vv, .int .i64 c, bv, ev], .box (w.heap.size + 1) [.int .i64 0, .int .i64 0, .int .i64 0, .int .i64 0, .slice none 0 0, .int .i64 0, .int .i64 0, .slice none 0 0, .int .i64 0, .slice none 0 0, .slice none 0 0], .box (w.heap.size + 1 + 1) [.int .i64 k, .int .i64 t, .int .i64 i.kind, .int .i64 i.value, .slice ai i.kids.length ci, .int .i64 v.kind, .int .i64 v.value, .slice av v.kids.length cv, .int .i64 c, .slice ab b.length cb, .slice none 0 0], .own S1 (fun w => t9 w (.slice ai i.kids.length ci) i.kids S1), .own S2 (fun w => t9 w (.slice av v.kids.length cv) v.kids S2), .own S3 (fun w => t5 w (.slice ab b.length cb) b S3), .own S4 (fun w => t5 w (.slice ae e.length ce) e S4)] rfl
 have o0 : World.cell? _ ⟨w.heap.size + 1 + 1, 0, none⟩ = some (.int .i64 k) := M.c 2 0 rfl rfl
 have o1 : World.cell? _ ⟨w.heap.size + 1 + 1, 1, none⟩ = some (.int .i64 t) := M.c 2 1 rfl rfl
 have o2 : World.cell? _ ⟨w.heap.size + 1 + 1, 2, none⟩ = some (.int .i64 i.kind) := M.c 2 2 rfl rfl
 have o3 : World.cell? _ ⟨w.heap.size + 1 + 1, 3, none⟩ = some (.int .i64 i.value) := M.c 2 3 rfl rfl
 have o4 : World.cell? _ ⟨w.heap.size + 1 + 1, 4, none⟩ = some (.slice ai i.kids.length ci) := M.c 2 4 rfl rfl
 have o5 : World.cell? _ ⟨w.heap.size + 1 + 1, 5, none⟩ = some (.int .i64 v.kind) := M.c 2 5 rfl rfl
 have o6 : World.cell? _ ⟨w.heap.size + 1 + 1, 6, none⟩ = some (.int .i64 v.value) := M.c 2 6 rfl rfl
 have o7 : World.cell? _ ⟨w.heap.size + 1 + 1, 7, none⟩ = some (.slice av v.kids.length cv) := M.c 2 7 rfl rfl
 have o8 : World.cell? _ ⟨w.heap.size + 1 + 1, 8, none⟩ = some (.int .i64 c) := M.c 2 8 rfl rfl
 have o9 : World.cell? _ ⟨w.heap.size + 1 + 1, 9, none⟩ = some (.slice ab b.length cb) := M.c 2 9 rfl rfl
 have o10 : World.cell? _ ⟨w.heap.size + 1 + 1, 10, none⟩ = some (.slice none 0 0) := M.c 2 10 rfl rfl
 have z0 : World.cell? _ ⟨w.heap.size + 1, 0, none⟩ = some (.int .i64 0) := M.c 1 0 rfl rfl
 have z1 : World.cell? _ ⟨w.heap.size + 1, 1, none⟩ = some (.int .i64 0) := M.c 1 1 rfl rfl
 have z2 : World.cell? _ ⟨w.heap.size + 1, 2, none⟩ = some (.int .i64 0) := M.c 1 2 rfl rfl
 have z3 : World.cell? _ ⟨w.heap.size + 1, 3, none⟩ = some (.int .i64 0) := M.c 1 3 rfl rfl
 have z4 : World.cell? _ ⟨w.heap.size + 1, 4, none⟩ = some (.slice none 0 0) := M.c 1 4 rfl rfl
 have z5 : World.cell? _ ⟨w.heap.size + 1, 5, none⟩ = some (.int .i64 0) := M.c 1 5 rfl rfl
 have z6 : World.cell? _ ⟨w.heap.size + 1, 6, none⟩ = some (.int .i64 0) := M.c 1 6 rfl rfl
 have z7 : World.cell? _ ⟨w.heap.size + 1, 7, none⟩ = some (.slice none 0 0) := M.c 1 7 rfl rfl
 have z8 : World.cell? _ ⟨w.heap.size + 1, 8, none⟩ = some (.int .i64 0) := M.c 1 8 rfl rfl
 have z9 : World.cell? _ ⟨w.heap.size + 1, 9, none⟩ = some (.slice none 0 0) := M.c 1 9 rfl rfl
 have z10 : World.cell? _ ⟨w.heap.size + 1, 10, none⟩ = some (.slice none 0 0) := M.c 1 10 rfl rfl
 have fo := M.f 2 rfl
 have fz := M.f 1 rfl
 have M2 := ((M.set 2 rfl 10 (.slice ae e.length ce)).fill 1 rfl [.int .i64 k, .int .i64 t, .int .i64 i.kind, .int .i64 i.value, .slice ai i.kids.length ci, .int .i64 v.kind, .int .i64 v.value, .slice av v.kids.length cv, .int .i64 c, .slice ab b.length cb, .slice ae e.length ce] rfl).as [.box w.heap.size [.int .i64 k, .int .i64 t, .int .i64 i.kind, .int .i64 i.value, iv, .int .i64 v.kind, .int .i64 v.value, vv, .int .i64 c, bv, ev], .box (w.heap.size + 1) [.int .i64 k, .int .i64 t, .int .i64 i.kind, .int .i64 i.value, .slice ai i.kids.length ci, .int .i64 v.kind, .int .i64 v.value, .slice av v.kids.length cv, .int .i64 c, .slice ab b.length cb, .slice ae e.length ce], .box (w.heap.size + 1 + 1) [.int .i64 k, .int .i64 t, .int .i64 i.kind, .int .i64 i.value, .slice ai i.kids.length ci, .int .i64 v.kind, .int .i64 v.value, .slice av v.kids.length cv, .int .i64 c, .slice ab b.length cb, .slice ae e.length ce], .own S1 (fun w => t9 w (.slice ai i.kids.length ci) i.kids S1), .own S2 (fun w => t9 w (.slice av v.kids.length cv) v.kids S2), .own S3 (fun w => t5 w (.slice ab b.length cb) b S3), .own S4 (fun w => t5 w (.slice ae e.length ce) e S4)] rfl
 simp only [World.setFrom] at M2
 have HM2 := show Hid _ from M2
 clear M M2
 go_wp2_with fail
 have M2 := HM2.out
 have r0 : World.cell? _ ⟨w.heap.size + 1, 0, none⟩ = some (.int .i64 k) := M2.c 1 0 rfl rfl
 have r1 : World.cell? _ ⟨w.heap.size + 1, 1, none⟩ = some (.int .i64 t) := M2.c 1 1 rfl rfl
 have r2 : World.cell? _ ⟨w.heap.size + 1, 2, none⟩ = some (.int .i64 i.kind) := M2.c 1 2 rfl rfl
 have r3 : World.cell? _ ⟨w.heap.size + 1, 3, none⟩ = some (.int .i64 i.value) := M2.c 1 3 rfl rfl
 have r4 : World.cell? _ ⟨w.heap.size + 1, 4, none⟩ = some (.slice ai i.kids.length ci) := M2.c 1 4 rfl rfl
 have r5 : World.cell? _ ⟨w.heap.size + 1, 5, none⟩ = some (.int .i64 v.kind) := M2.c 1 5 rfl rfl
 have r6 : World.cell? _ ⟨w.heap.size + 1, 6, none⟩ = some (.int .i64 v.value) := M2.c 1 6 rfl rfl
 have r7 : World.cell? _ ⟨w.heap.size + 1, 7, none⟩ = some (.slice av v.kids.length cv) := M2.c 1 7 rfl rfl
 have r8 : World.cell? _ ⟨w.heap.size + 1, 8, none⟩ = some (.int .i64 c) := M2.c 1 8 rfl rfl
 have r9 : World.cell? _ ⟨w.heap.size + 1, 9, none⟩ = some (.slice ab b.length cb) := M2.c 1 9 rfl rfl
 have r10 : World.cell? _ ⟨w.heap.size + 1, 10, none⟩ = some (.slice ae e.length ce) := M2.c 1 10 rfl rfl
 have e1 := fun b (h1 : S1 b) => M2.dis 3 4 _ _ b rfl rfl (by omega) h1
 have e2 := fun b (h1 : S1 b) => M2.dis 3 5 _ _ b rfl rfl (by omega) h1
 have e3 := fun b (h1 : S1 b) => M2.dis 3 6 _ _ b rfl rfl (by omega) h1
 have e4 := fun b (h1 : S2 b) => M2.dis 4 5 _ _ b rfl rfl (by omega) h1
 have e5 := fun b (h1 : S2 b) => M2.dis 4 6 _ _ b rfl rfl (by omega) h1
 have e6 := fun b (h1 : S3 b) => M2.dis 5 6 _ _ b rfl rfl (by omega) h1
 refine bodyPost_ret (v := .agg #[.int .i64 k, .int .i64 t, .int .i64 i.kind, .int .i64 i.value, .slice ai i.kids.length ci, .int .i64 v.kind, .int .i64 v.value, .slice av v.kids.length cv, .int .i64 c, .slice ab b.length cb, .slice ae e.length ce]) (by simp [results, Try.results178, go_sem, r0, r1, r2, r3, r4, r5, r6, r7, r8, r9, r10]) rfl ⟨ai, ci, av, cv, ab, cb, ae, ce, fun b => S1 b ∨ S2 b ∨ S3 b ∨ S4 b, rfl, (C6.iff ⟨k, t, i, v, c, b, e⟩ _ _).2 ⟨_, _, _, _, S1, S2, S3, S4, rfl, ⟨fun b hb => ⟨.inl hb, e1 b hb, e2 b hb, e3 b hb⟩, fun b hb => ⟨.inr (.inl hb), e4 b hb, e5 b hb⟩, fun b hb => ⟨.inr (.inr (.inl hb)), e6 b hb⟩, fun b hb => .inr (.inr (.inr hb))⟩, M2.o 3 rfl, M2.o 4 rfl, M2.o 5 rfl, M2.o 6 rfl⟩, fun b hb => ?_, M2.below fun _ _ => trivial⟩
 have fin : ∀ (j : Nat) (S : Nat → Prop) (R : World → Prop) (L : List N2) (W : World), A0 (fun _ => True) (fun _ => True) w W L → L[j]? = some (.own S R) → S b → w.heap.size ≤ b ∧ b < W.heap.size := fun j S R L W M hj hs =>
  ⟨(M.ge _ b (bf7 hj) hs).elim (fun h => h) fun h => absurd bf4 h, M.lt (bf7 hj) hs⟩
 rcases hb with hb | hb | hb | hb
 ·exact fin 3 _ _ _ _ M2 rfl hb
 ·exact fin 4 _ _ _ _ M2 rfl hb
 ·exact fin 5 _ _ _ _ M2 rfl hb
 ·exact fin 6 _ _ _ _ M2 rfl hb
theorem ao7 (φ : Nat → Prop) (u : Value) (p : l9) (w : World) (h : ae8 w φ u p) (hb : p.size ≤ 1048576) :
  Calls Try.prog 41 #[u] w fun x w' => ∃ a1 k1 a2 k2 a3 k3 S, x = .returned (.agg #[.slice a1 p.vars.length k1, .slice a2 p.arrays.length k2, .slice a3 p.body.length k3]) ∧ W0 w' (.agg #[.slice a1 p.vars.length k1, .slice a2 p.arrays.length k2, .slice a3 p.body.length k3]) p S ∧ (∀ b, S b → w.heap.size ≤ b ∧ b < w'.heap.size) ∧ Below w.heap.size w w' := by
 obtain ⟨v1, v2, v3, rfl, h1, h2, h3⟩ := h
 have hsz : p.vars.length + p.arrays.length + t7 p.body ≤ 1048576 := hb
 obtain ⟨W, hW, M⟩ : ∃ W, W = (((w.alloc (.cells #[v1, v2, v3] 76)).alloc (.cells #[.slice none 0 0, .slice none 0 0, .slice none 0 0] 26)).alloc (.cells #[.slice none 0 0, .slice none 0 0, .slice none 0 0] 26)) ∧ A0 (fun _ => True) (fun _ => True) w W [.box w.heap.size [v1, v2, v3], .box (w.heap.size + 1) [.slice none 0 0, .slice none 0 0, .slice none 0 0], .box (w.heap.size + 1 + 1) [.slice none 0 0, .slice none 0 0, .slice none 0 0]] :=
  ⟨_, rfl, (((A0.start fun _ _ => trivial).box _ _).box' _ _ (by simp)).box' _ _ (by simp)⟩
 have HG := show Hid (∀ W', Below w.heap.size w W' → K5 W' v1 p.vars.length 1 (ints p.vars) ∧ K5 W' v2 p.arrays.length 1 (ints p.arrays) ∧ t3 W' φ v3 p.body) from fun W' k =>
  ⟨h1.row.below k, h2.row.below k, t3.nice _ _ _ _ _ _ (I8.below k) h3⟩
 clear h1 h2 h3 hb
 have c0 := M.c 0 0 rfl rfl
 rw [hW] at c0
 have HZ := show Hid _ from hsz
 have HM := show Hid _ from M
 clear M hsz
 go_enter Try.func41, Try.ntmps41
 go_wp2_with fail
 rw [← hW]
 have M := HM.out
 clear hW HM c0
 refine (T8 v1 p.vars _ (HG.out _ (M.below fun _ _ => trivial)).1 (by have := HZ.out; omega)).mono ?_
 rintro x w1 ⟨u1, rfl, o1, b1⟩
 obtain ⟨a1, k1, rfl⟩ := o1.form
 replace M := M.callR b1 o1.1
 clear o1 b1
 have x1 := M.c 0 1 rfl rfl
 have y0 := M.c 2 0 rfl rfl
 have fo := M.f 2 rfl
 have M2 := (M.set 2 rfl 0 (.slice a1 p.vars.length k1))
 have HM := show Hid _ from M2
 clear M M2
 go_wp2_with fail
 have M := HM.out
 clear HM x1 y0 fo
 refine (T8 v2 p.arrays _ (HG.out _ (M.below fun _ _ => trivial)).2.1 (by have := HZ.out; omega)).mono ?_
 rintro x w2 ⟨u2, rfl, o2, b2⟩
 obtain ⟨a2, k2, rfl⟩ := o2.form
 replace M := M.callR b2 o2.1
 clear o2 b2
 have x2 := M.c 0 2 rfl rfl
 have y1 := M.c 2 1 rfl rfl
 have fo := M.f 2 rfl
 have M2 := (M.set 2 rfl 1 (.slice a2 p.arrays.length k2))
 have HM := show Hid _ from M2
 clear M M2
 go_wp2_with fail
 have M := HM.out
 clear HM x2 y1 fo
 refine (aa2 p.body (fun s _ => aD5 s) φ v3 _ (HG.out _ (M.below fun _ _ => trivial)).2.2 (by have := HZ.out; omega)).mono ?_
 rintro x w3 ⟨a3, k3, S3, rfl, hO, hS, b3⟩
 replace M := M.callO b3 (S := S3) (R := fun w => t5 w (.slice a3 p.body.length k3) p.body S3) (fun w w' h hs => t5.same h hs) hO (fun b hb => hS b hb)
 clear hO hS b3
 have y0 : World.cell? _ ⟨w.heap.size + 1 + 1, 0, none⟩ = some (.slice a1 p.vars.length k1) := M.c 2 0 rfl rfl
 have y1 : World.cell? _ ⟨w.heap.size + 1 + 1, 1, none⟩ = some (.slice a2 p.arrays.length k2) := M.c 2 1 rfl rfl
 have y2 : World.cell? _ ⟨w.heap.size + 1 + 1, 2, none⟩ = some (.slice none 0 0) := M.c 2 2 rfl rfl
 have z0 := M.c 1 0 rfl rfl
 have z1 := M.c 1 1 rfl rfl
 have z2 := M.c 1 2 rfl rfl
 have fo := M.f 2 rfl
 have fz := M.f 1 rfl
 have M2 := (M.set 2 rfl 2 (.slice a3 p.body.length k3)).fill 1 rfl [.slice a1 p.vars.length k1, .slice a2 p.arrays.length k2, .slice a3 p.body.length k3] rfl
 simp only [World.setFrom] at M2
 have HM2 := show Hid _ from M2
 clear M M2
 go_wp2_with fail
 have M2 := HM2.out
 have r0 : World.cell? _ ⟨w.heap.size + 1, 0, none⟩ = some (.slice a1 p.vars.length k1) := M2.c 1 0 rfl rfl
 have r1 : World.cell? _ ⟨w.heap.size + 1, 1, none⟩ = some (.slice a2 p.arrays.length k2) := M2.c 1 1 rfl rfl
 have r2 : World.cell? _ ⟨w.heap.size + 1, 2, none⟩ = some (.slice a3 p.body.length k3) := M2.c 1 2 rfl rfl
 have fin : ∀ (b j : Nat) (r : N2) (L : List N2) (W : World), A0 (fun _ => True) (fun _ => True) w W L → L[j]? = some r → r.blk b → w.heap.size ≤ b ∧ b < W.heap.size := fun b j r L W M hj hs =>
  ⟨(M.ge _ b (bf7 hj) hs).elim (fun h => h) fun h => absurd bf4 h, M.lt (bf7 hj) hs⟩
 have e1 := fun b => M2.dis 3 4 _ _ b rfl rfl (by omega)
 have e2 := fun b => M2.dis 3 5 _ _ b rfl rfl (by omega)
 have e3 := fun b => M2.dis 4 5 _ _ b rfl rfl (by omega)
 refine bodyPost_ret (v := .agg #[.slice a1 p.vars.length k1, .slice a2 p.arrays.length k2, .slice a3 p.body.length k3]) (by simp [results, Try.results41, go_sem, r0, r1, r2]) rfl ⟨a1, k1, a2, k2, a3, k3, fun b => (Value.slice a1 p.vars.length k1).ownBlock = some b ∨ (Value.slice a2 p.arrays.length k2).ownBlock = some b ∨ S3 b, rfl,
  ⟨_, _, _, S3, rfl, M2.r 3 rfl, M2.r 4 rfl, M2.o 5 rfl, fun g hg => ⟨.inl hg, e2 g hg, e1 g hg⟩, fun g hg => ⟨.inr (.inl hg), e3 g hg⟩, fun b hb => .inr (.inr hb)⟩, fun b hb => ?_, M2.below fun _ _ => trivial⟩
 rcases hb with hb | hb | hb
 ·exact fin b 3 _ _ _ M2 rfl hb
 ·exact fin b 4 _ _ _ M2 rfl hb
 ·exact fin b 5 _ _ _ M2 rfl hb
theorem M6 (us : List Value) : ∀ (c ys : List Value) (p : Nat), c.length ≤ p → setFrom (c ++ ys) p us = c ++ setFrom ys (p - c.length) us := by
 induction us with
 | nil => intro c ys p _; rfl
 | cons u r ih =>
  intro c ys p hp
  simp only [setFrom]
  rw [List.set_append_right _ _ hp, ih _ _ _ (by omega), show p + 1 - c.length = p - c.length + 1 by omega]
theorem N4 (us : List Value) : ∀ (c ys : List Value) (p : Nat), p + us.length ≤ c.length → setFrom (c ++ ys) p us = setFrom c p us ++ ys := by
 induction us with
 | nil => intro c ys p _; rfl
 | cons u r ih =>
  intro c ys p hp
  simp only [bi0] at hp
  simp only [setFrom]
  rw [List.set_append_left _ _ (by omega), ih _ _ _ (by simp; omega)]
theorem Z9 {c us : List Value} (h : us.length = c.length) : setFrom c 0 us = us := by
 have h1 := O0 us c 0 (by omega)
 rw [bi4, bf6 (by rw [D9]; omega)] at h1
 simpa using h1
theorem C8.len {w : World} {e : b7} {S : Nat → Prop} {c : List Value} (h : C8 w e S c) : c.length = 3 := by
 obtain ⟨kv, rfl, _⟩ := (C8.iff e S c).1 h; rfl
theorem C6.len {w : World} {s : b6} {S : Nat → Prop} {c : List Value} (h : C6 w s S c) : c.length = 11 := by
 obtain ⟨_, _, _, _, _, _, _, _, rfl, _⟩ := (C6.iff s S c).1 h; rfl
theorem n9.focus {w : World} : ∀ {ls : List b7} {S : Nat → Prop} {xs : List Value}, n9 w ls S xs → ∀ (i : Nat) (hi : i < ls.length), ∃ (c : List Value) (Sc : Nat → Prop), C8 w ls[i] Sc c ∧ (∀ b, Sc b → S b) ∧ (∀ j, j < 3 → xs[i * 3 + j]? = c[j]?) ∧
  ∀ (w' : World) (e' : b7) (c' : List Value), (∀ b, S b → ¬ Sc b → b < w.heap.size → w'.heap[b]? = w.heap[b]?) → C8 w' e' Sc c' → n9 w' (ls.set i e') S (setFrom xs (i * 3) c')
 | [], _, _, _, i, hi => by simp at hi
 | e :: r, S, xs, ⟨c, ys, S1, S2, h1, h2, h3, h4, h5⟩, i, hi => by
  have hc := h4.len
  subst h1
  cases i with
  | zero =>
   refine ⟨c, S1, h4, fun b hb => (h2 b hb).1, fun j hj => by rw [bh5 (by omega)]; simp, fun w' e' c' hs hO => ?_⟩
   refine ⟨c', ys, S1, S2, ?_, h2, h3, hO, n9.same r S2 ys h5 fun b hb hlt => hs b (h3 b hb) (fun h => (h2 b h).2 hb) hlt⟩
   rw [Nat.zero_mul, N4 c' c ys 0 (by rw [hO.len]; omega), Z9 (by rw [hO.len, hc])]
  | succ i =>
   obtain ⟨d, Sc, k1, k2, k3, k4⟩ := n9.focus h5 i (by simpa using hi)
   refine ⟨d, Sc, k1, fun b hb => h3 b (k2 b hb), fun j hj => ?_, fun w' e' c' hs hO => ?_⟩
   ·rw [bh6 (by rw [hc, bg9]; omega), ← k3 j hj]
    congr 1
    rw [hc, bg9]; omega
   ·refine ⟨c, setFrom ys (i * 3) c', S1, S2, ?_, h2, h3, C8.same e S1 c h4 fun b hb hlt => hs b (h2 b hb).1 (fun h => (h2 b hb).2 (k2 b h)) hlt, k4 w' e' c' (fun b hb hn hlt => hs b (h3 b hb) hn hlt) hO⟩
    rw [M6 c' c ys _ (by rw [hc, bg9]; omega), hc, bg9, Nat.add_sub_cancel]
theorem n8.focus {w : World} : ∀ {ls : List b6} {S : Nat → Prop} {xs : List Value}, n8 w ls S xs → ∀ (i : Nat) (hi : i < ls.length), ∃ (c : List Value) (Sc : Nat → Prop), C6 w ls[i] Sc c ∧ (∀ b, Sc b → S b) ∧ (∀ j, j < 11 → xs[i * 11 + j]? = c[j]?) ∧
  ∀ (w' : World) (e' : b6) (c' : List Value), (∀ b, S b → ¬ Sc b → b < w.heap.size → w'.heap[b]? = w.heap[b]?) → C6 w' e' Sc c' → n8 w' (ls.set i e') S (setFrom xs (i * 11) c')
 | [], _, _, _, i, hi => by simp at hi
 | e :: r, S, xs, ⟨c, ys, S1, S2, h1, h2, h3, h4, h5⟩, i, hi => by
  have hc := h4.len
  subst h1
  cases i with
  | zero =>
   refine ⟨c, S1, h4, fun b hb => (h2 b hb).1, fun j hj => by rw [bh5 (by omega)]; simp, fun w' e' c' hs hO => ?_⟩
   refine ⟨c', ys, S1, S2, ?_, h2, h3, hO, n8.same r S2 ys h5 fun b hb hlt => hs b (h3 b hb) (fun h => (h2 b h).2 hb) hlt⟩
   rw [Nat.zero_mul, N4 c' c ys 0 (by rw [hO.len]; omega), Z9 (by rw [hO.len, hc])]
  | succ i =>
   obtain ⟨d, Sc, k1, k2, k3, k4⟩ := n8.focus h5 i (by simpa using hi)
   refine ⟨d, Sc, k1, fun b hb => h3 b (k2 b hb), fun j hj => ?_, fun w' e' c' hs hO => ?_⟩
   ·rw [bh6 (by rw [hc, bg9]; omega), ← k3 j hj]
    congr 1
    rw [hc, bg9]; omega
   ·refine ⟨c, setFrom ys (i * 11) c', S1, S2, ?_, h2, h3, C6.same e S1 c h4 fun b hb hlt => hs b (h2 b hb).1 (fun h => (h2 b hb).2 (k2 b h)) hlt, k4 w' e' c' (fun b hb hn hlt => hs b (h3 b hb) hn hlt) hO⟩
    rw [M6 c' c ys _ (by rw [hc, bg9]; omega), hc, bg9, Nat.add_sub_cancel]
def mxE (ks : List b7) (k : Int) (i : Nat) : List b7 := (W4 ks k).take i ++ ks.drop i
theorem P3 : ∀ (ks : List b7) (k : Int), (W4 ks k).length = ks.length
 | [], _ => rfl
 | _ :: r, k => by simp [W4, P3 r]
theorem az7 : ∀ (ks : List b7) (k : Int) (i : Nat) (h : i < ks.length), (W4 ks k)[i]? = some (mkE ks[i] (k + 2 * m6 (ks.take i)))
 | [], _, i, h => by simp at h
 | e :: r, k, 0, _ => by simp [W4, m6]
 | e :: r, k, i + 1, h => by
  simp only [W4, List.getElem?_cons_succ, List.getElem_cons_succ, List.take_succ_cons, m6]
  rw [az7 r _ i (by simpa using h)]
  congr 2
  simp only [Int.natCast_add, Int.natCast_one]
  omega
theorem a11 (ks : List b7) (k : Int) {i : Nat} (h : i ≤ ks.length) : (mxE ks k i).length = ks.length := by simp [mxE, P3]; omega
theorem aT2 (ks : List b7) (k : Int) : mxE ks k 0 = ks := by simp [mxE]
theorem a12 (ks : List b7) (k : Int) : mxE ks k ks.length = W4 ks k := by
 unfold mxE; rw [List.drop_length, List.append_nil, bf6 (by rw [P3]; exact bf5 _)]
theorem a79 (ks : List b7) (k : Int) {i : Nat} (h : i < ks.length) : (mxE ks k i)[i]? = some ks[i] := by
 unfold mxE
 rw [bh6 (by rw [bi5]; omega), bi5, P3, Nat.min_eq_left (by omega), Nat.sub_self, List.getElem?_drop, bi2, be9 h]
theorem aT3 (ks : List b7) (k : Int) {i : Nat} (h : i < ks.length) : mxE ks k (i + 1) = (mxE ks k i).set i (mkE ks[i] (k + 2 * m6 (ks.take i))) := by
 have hl : ((W4 ks k).take i).length = i := by rw [bi5, P3]; omega
 have hg := az7 ks k i h
 have hi : i < (W4 ks k).length := by rw [P3]; exact h
 rw [be9 hi] at hg
 have hg' := Option.some.inj hg
 unfold mxE
 rw [List.set_append_right _ _ (by omega), hl, Nat.sub_self, List.drop_eq_getElem_cons h, List.set_cons_zero, s8 _ _ hi, hg']
 simp
def bc4 (e : b7) : Prop := ∀ (v : Value) (k : Int) (w : World) (S : Nat → Prop), t9 w v e.kids S → 0 ≤ k → k + 2 * m6 e.kids ≤ 9000000000000000000 →
 Calls Try.prog 137 #[v, .int .i64 k] w fun x w' => x = .returned (.int .i64 (k + 2 * m6 e.kids)) ∧ t9 w' v (W4 e.kids k) S ∧ v9 (fun b => ¬ S b) w w'
theorem ad5 (ks : List b7) (ih : ∀ e ∈ ks, bc4 e) (v : Value) (k0 : Int) (w : World) (S : Nat → Prop) (h : t9 w v ks S) (hk0 : 0 ≤ k0) (hkb : k0 + 2 * m6 ks ≤ 9000000000000000000) :
  Calls Try.prog 137 #[v, .int .i64 k0] w fun x w' => x = .returned (.int .i64 (k0 + 2 * m6 ks)) ∧ t9 w' v (W4 ks k0) S ∧ v9 (fun b => ¬ S b) w w' := by
 obtain ⟨xs, S', ho, hg, hs, hx⟩ := h
 obtain ⟨a, cap, rfl⟩ := Y8 ho
 have hm : ks.length ≤ 9223372036854775807 := (M9 ho).len
 have HG := show Hid _ from hg
 have HS := show Hid _ from hs
 have HX := show Hid _ from hx
 have HO := show Hid _ from ho
 clear hg hs hx ho
 go_enter Try.func137, Try.ntmps137
 go_wp2_with fail
 go_loopw [1, 5] (fun q i wr => ∃ (j : Nat) (y : Int) (xs : List Value), j ≤ ks.length ∧ i = .int .i64 j ∧ q = .int .i64 y ∧ y = k0 + 2 * m6 (ks.take j) ∧ wr.ownsRow 0 59 3 (.slice a ks.length cap) ks.length xs ∧ n9 wr (mxE ks k0 j) S' xs ∧ v9 (fun b => ¬ S b) w wr) (fun _ i _ => ks.length - (intOf i).toNat)
 case atStart => exact ⟨0, k0, xs, bg3 _, rfl, rfl, by simp [m6], HO.out, by rw [aT2]; exact HX.out, v9.refl _ _⟩
 case round =>
  obtain ⟨j, y, xs, hj, rfl, rfl, hy, ho, hx, hkp⟩ := hrel
  have HY := show Hid _ from hy
  have HKP := show Hid _ from hkp
  have HX1 := show Hid _ from hx
  have HO1 := show Hid _ from ho
  clear hy hkp hx ho
  by_cases hlt : j < ks.length
  ·have h1 := H2 hlt
   have h2 := aq4 ks (j + 1)
   have hy0 : 0 ≤ y := by have := HY.out; omega
   have hy1 : y + 2 + 2 * B9 ks[j] ≤ 9000000000000000000 := by have := HY.out; omega
   have hlen := a11 ks k0 hj
   obtain ⟨c, Sc, f1, f2, f3, f4⟩ := HX1.out.focus j (by omega)
   have hge := a79 ks k0 hlt
   rw [be9 (by omega)] at hge
   rw [Option.some.inj hge] at f1
   obtain ⟨kv, rfl, hkv⟩ := (C8.iff _ _ _).1 f1
   have F3 := show Hid _ from f3
   have F4 := show Hid _ from f4
   have F2 := show Hid _ from f2
   obtain ⟨g, cap', hv, -, hg2, hg3, -, -, hfr, hcell⟩ := (I5.mk' HO1.out).open (by omega)
   cases hv
   have hxl : xs.length = ks.length * 3 := HO1.out.1
   have e0 := hcell (j * 3) (.int .i64 ks[j].kind) (by simpa using f3 0 (by omega))
   have e1 := hcell (j * 3 + 1) (.int .i64 ks[j].value) ((f3 1 (by omega)).trans rfl)
   have e2 := hcell (j * 3 + 2) kv ((f3 2 (by omega)).trans rfl)
   have hSg : ¬ S' g := (HG.out g rfl).2
   have HSG := show Hid _ from hSg
   have HK := show Hid _ from hkv
   have HXL := show Hid _ from hxl
   have HH := show Hid _ from And.intro h1 h2
   clear hcell f1 f2 f3 f4 hkv hge hlen hSg hxl h1 h2
   go_wp2_with fail
   refine (ih _ (bg4 hlt) kv (y + 1 + 1) _ Sc (t9.same HK.out fun b hb hl => ?_) (by omega) ?_).mono ?_
   ·have hbg : b ≠ g := fun e => HSG.out (by rw [← e]; exact F2.out b hb)
    rw [Below.heap_setCell _ _ _ _ hbg, Below.heap_setCell _ _ _ _ hbg]
   ·have : m6 ks[j].kids = B9 ks[j] := (by cases ks[j]; rfl)
    omega
   rintro x w2 ⟨rfl, hk2, kp2⟩
   have hkids : m6 ks[j].kids = B9 ks[j] := (by cases ks[j]; rfl)
   rw [hkids]
   have r1 := ((I5.mk' HO1.out).setCell (j := j * 3) (by rw [HXL.out]; omega) (.int .i64 y)).setCell (j := j * 3 + 1) (by rw [List.length_set, HXL.out]; omega) (.int .i64 (y + 1))
   have hxs : (xs.set (j * 3) (.int .i64 y)).set (j * 3 + 1) (.int .i64 (y + 1)) = setFrom xs (j * 3) [.int .i64 y, .int .i64 (y + 1), kv] := by
    simp only [setFrom]
    have h3 : xs[j * 3 + 1 + 1]? = some kv := (F3.out 2 (by omega)).trans rfl
    apply List.ext_getElem?
    intro q
    rw [List.getElem?_set (i := j * 3 + 1 + 1)]
    split
    ·rename_i e
     subst e
     rw [List.getElem?_set_ne (by omega), List.getElem?_set_ne (by omega), h3]
     have := (bf3.1 h3).1
     simp [this]
    ·rfl
   rw [hxs] at r1
   have hne : ¬ Sc g := fun h => HSG.out (F2.out g h)
   have r2 := C4 (D2 r1.1 (bg3 _)) (w' := w2) fun g' hg' => by
    cases hg'
    exact kp2.block g (by simp; exact hg3) hne
   have hx2 := F4.out w2 (mkE ks[j] y) [.int .i64 y, .int .i64 (y + 1), kv] (fun b hb hn hl => by
    have hbg : b ≠ g := fun e => HSG.out (by rw [← e]; exact hb)
    rw [kp2.block b (by simp; exact hl) hn, Below.heap_setCell _ _ _ _ hbg, Below.heap_setCell _ _ _ _ hbg]) ((C8.iff _ _ _).2 ⟨kv, by cases ks[j]; rfl, by
     have hy2 : y + 1 + 1 = y + 2 := by omega
     rw [hy2] at hk2
     cases hkj : ks[j] with
     | mk a1 b1 c1 => rw [hkj] at hk2; exact hk2⟩)
   have hmx := aT3 ks k0 hlt
   rw [← HY.out] at hmx
   rw [← hmx] at hx2
   have hkept : v9 (fun b => ¬ S b) w w2 := HKP.out.trans (((v9.setCell wr g (j * 3) (.int .i64 y)).trans (v9.setCell _ g (j * 3 + 1) (.int .i64 (y + 1)))).mono (fun b hb e => hb (by rw [e]; exact (HG.out g rfl).1)) |>.trans (kp2.mono fun b hb h => hb (HS.out b (F2.out b h))))
   have HF := show Hid _ from And.intro r2 (And.intro hx2 hkept)
   have hsz0 : (0 : Int) ≤ B9 ks[j] := by omega
   clear r1 r2 hx2 hkept hmx hxs hkids hk2 kp2
   obtain ⟨z, hz⟩ : ∃ z : Nat, z = B9 ks[j] := ⟨_, rfl⟩
   have HZ := show Hid _ from hz
   rw [← hz] at hy1 hsz0 ⊢
   clear hz
   go_wp2_with fail
   exact ⟨⟨j + 1, _, _, by omega, by go_num, rfl, by rw [HH.out.1, HY.out, ← HZ.out]; omega, HF.out.1, HF.out.2.1, HF.out.2.2⟩, by simp [intOf]; omega⟩
  ·have hjn : j = ks.length := by omega
   subst hjn
   go_wp2_with fail
   go_ret
   exact ⟨s6 (by have := HY.out; rw [bf6 (bf5 _)] at this; exact this), ⟨xs, S', by rw [P3]; exact HO1.out, HG.out, HS.out, by rw [← a12]; exact HX1.out⟩, HKP.out⟩
section
variable {φ ψ : Nat → Prop} {w0 w w' : World} {L : List N2}
theorem n9.at : ∀ {ks : List b7} {S : Nat → Prop} {xs : List Value}, n9 w ks S xs → ∀ (i : Nat) (hi : i < ks.length), ∃ kv, xs[i * 3]? = some (.int .i64 ks[i].kind) ∧ xs[i * 3 + 1]? = some (.int .i64 ks[i].value) ∧ xs[i * 3 + 2]? = some kv ∧ t9 w kv ks[i].kids S
 | [], _, _, _, i, hi => by simp at hi
 | e :: r, S, _, ⟨c, ys, S1, S2, h1, h2, h3, h4, h5⟩, i, hi => by
  obtain ⟨kv, rfl, hk⟩ := (C8.iff e S1 c).1 h4
  subst h1
  cases i with
  | zero => exact ⟨kv, rfl, rfl, rfl, hk.mono fun b hb => (h2 b hb).1⟩
  | succ i =>
   obtain ⟨kv', a, b, d, f⟩ := n9.at h5 i (by simpa using hi)
   refine ⟨kv', ?_, ?_, ?_, f.mono h3⟩ <;> (rw [bg9]; simpa [Nat.add_assoc] using by assumption)
theorem t9.open {v : Value} {ks : List b7} {S : Nat → Prop} (h : t9 w v ks S) : ∃ a cap, v = .slice a ks.length cap ∧ ks.length ≤ cap ∧ ks.length ≤ 9223372036854775807 ∧ cap ≤ 9223372036854775807 ∧
  ∀ i (hi : i < ks.length), ∃ b off kv, a = some ⟨b, off, none⟩ ∧ b < w.heap.size ∧ S b ∧ w.cell? ⟨b, off + i * 3, none⟩ = some (.int .i64 ks[i].kind) ∧ w.cell? ⟨b, off + i * 3 + 1, none⟩ = some (.int .i64 ks[i].value) ∧ w.cell? ⟨b, off + i * 3 + 2, none⟩ = some kv ∧ t9 w kv ks[i].kids S := by
 obtain ⟨xs, S', h2, h3, h4, h5⟩ := h
 obtain ⟨hl, a, cap, hv, n1, n2, n3⟩ := D5 (φ := fun g => S g ∧ ¬ S' g) h2 h3
 unfold maxLen at n2
 refine ⟨a, cap, hv, n1, by omega, by omega, fun i hi => ?_⟩
 obtain ⟨b, off, he, hb, hf, hc⟩ := n3 (by omega)
 obtain ⟨kv, e0, e1, e2, hk⟩ := h5.at i hi
 exact ⟨b, off, kv, he, hb, hf.1, hc _ _ e0, hc _ _ e1, hc _ _ e2, hk.mono h4⟩
theorem t9.nil (w : World) (S : Nat → Prop) : t9 w (.slice none 0 0) [] S := ⟨[], fun _ => False, World.ownsRow_nil _ _ _ _, (fun g hg => by cases hg), fun _ h => h.elim, rfl⟩
end
theorem R2 (ks : List b7) (v : Value) (k0 : Int) (w : World) (S : Nat → Prop) (h : t9 w v ks S) (hk0 : 0 ≤ k0) (hkb : k0 + 2 * m6 ks ≤ 9000000000000000000) :
  Calls Try.prog 137 #[v, .int .i64 k0] w fun x w' => x = .returned (.int .i64 (k0 + 2 * m6 ks)) ∧ t9 w' v (W4 ks k0) S ∧ v9 (fun b => ¬ S b) w w' :=
 ad5 ks (fun e _ => b7.ind (P := bc4) (fun _ _ ks ih v k w S h h0 hb => ad5 ks ih v k w S h h0 hb) e) v k0 w S h hk0 hkb
theorem au7 (k n : Int) (ks : List b7) (kv : Value) (k0 : Int) (w : World) (S : Nat → Prop) (h : t9 w kv ks S) (hk0 : 0 ≤ k0) (hkb : k0 + 2 * m6 ks ≤ 9000000000000000000) :
  Calls Try.prog 60 #[.agg #[.int .i64 k, .int .i64 n, kv], .int .i64 k0] w fun x w' => x = .returned (.int .i64 (k0 + 2 * m6 ks)) ∧ t9 w' kv (W4 ks k0) S ∧ v9 (fun b => ¬ S b) w w' := by
 have bx : Below w.heap.size w (w.alloc (.cells #[.int .i64 k, .int .i64 n, kv] 59)) := by go_grown
 have HK := show Hid _ from t9.same h fun b _ hl => bx.block b hl
 have HB := show Hid (v9 (fun b => ¬ S b) w (w.alloc (.cells #[.int .i64 k, .int .i64 n, kv] 59))) from v9.of_below bx fun _ hb _ => hb
 clear h bx
 go_enter Try.func60, Try.ntmps60
 go_wp2_with fail
 refine (R2 ks kv k0 _ S HK.out hk0 hkb).mono ?_
 rintro x w1 ⟨rfl, h1, h2⟩
 go_wp2_with fail
 go_ret
 exact ⟨rfl, h1, HB.out.trans h2⟩
theorem P7 (us : List Value) : ∀ (ys : List Value) (p q : Nat), p + us.length ≤ ys.length → (setFrom ys p us)[q]? = if p ≤ q ∧ q < p + us.length then us[q - p]? else ys[q]? := by
 induction us with
 | nil => intro ys p q _; simp only [setFrom, List.length_nil]; split; omega; rfl
 | cons u r ih =>
  intro ys p q h
  simp only [bi0] at h
  simp only [setFrom, bi0]
  rw [ih _ _ _ (by simp; omega)]
  by_cases h1 : q = p
  ·subst h1
   rw [if_neg (by omega), if_pos (by omega), List.getElem?_set_self (by omega), Nat.sub_self]; rfl
  ·by_cases h2 : p + 1 ≤ q ∧ q < p + 1 + r.length
   ·rw [if_pos h2, if_pos (by omega), show q - p = q - (p + 1) + 1 by omega]; rfl
   ·rw [if_neg h2, if_neg (by omega), List.getElem?_set_ne (by omega)]
theorem U1 {xs cs : List Value} {p : Nat} (h : p + cs.length ≤ xs.length) (hc : ∀ j, j < cs.length → xs[p + j]? = cs[j]?) : setFrom xs p cs = xs := by
 apply List.ext_getElem?
 intro q
 rw [P7 _ _ _ _ h]
 split
 ·rename_i h1
  rw [← hc _ (by omega)]; congr 1; omega
 ·rfl
theorem W8 {xs cs : List Value} {p k : Nat} (u : Value) (h : p + cs.length ≤ xs.length) (hk : k < cs.length) : (setFrom xs p cs).set (p + k) u = setFrom xs p (cs.set k u) := by
 apply List.ext_getElem?
 intro q
 rw [P7 _ _ _ _ (by simpa using h), List.getElem?_set, P7 _ _ _ _ h, D9, List.length_set]
 by_cases h1 : p + k = q
 ·subst h1
  rw [if_pos rfl, if_pos (by omega), if_pos (by omega), Nat.add_sub_cancel_left, List.getElem?_set_self hk]
 ·rw [if_neg h1]
  split
  ·rw [List.getElem?_set_ne (by omega)]
  ·rfl
def N2.plain : N2 → Prop
 | .dat _ => False
 | _ => True
theorem N2.holds_plain {w : World} {φ φ' : Nat → Prop} {r : N2} (hp : r.plain) (h : r.holds w φ) : r.holds w φ' := by
 cases r with
 | dat R => exact hp.elim
 | box b cs => exact h
 | row e sz v n xs => exact h
 | own S R => exact h
theorem A0.adopt {φ ψ : Nat → Prop} {w0 w : World} {L : List N2} (M : A0 φ ψ w0 w L) (r : N2) (hL : ∀ a ∈ L, a.plain) (hp : r.plain) (h : r.holds w (fun _ => True)) (hd : ∀ a ∈ L, ∀ g, r.blk g → ¬ a.blk g) (hg : ∀ g, r.blk g → ¬ ψ g) : A0 φ ψ w0 w (L ++ [r]) := by
 have get : ∀ (i : Nat) (x : N2), (L ++ [r])[i]? = some x → (i < L.length ∧ x ∈ L ∧ L[i]? = some x) ∨ (i = L.length ∧ x = r) := by
  intro k z hz
  rcases bh7 k L.length with hk | hk
  ·rw [bh5 hk] at hz; exact .inl ⟨hk, bf7 hz, hz⟩
  ·rw [bh6 hk] at hz
   have : k - L.length = 0 := by
    rcases Nat.eq_zero_or_pos (k - L.length) with h | h
    ·exact h
    ·rw [bh4 (by rw [List.length_singleton]; exact h)] at hz; cases hz
   rw [this] at hz; simp at hz
   exact .inr ⟨by omega, hz.symm⟩
 refine ⟨M.kept, M.fresh, fun x hx => ?_, fun i j x y g hi hj hij hx hy => ?_, fun x g hx hxg => ?_⟩
 ·rcases bg8.1 hx with hx | hx
  ·exact N2.holds_plain (hL x hx) (M.holds x hx)
  ·rw [bh3] at hx; subst hx; exact N2.holds_plain hp h
 ·rcases get i x hi with ⟨hi1, hi2, hi3⟩ | ⟨hi1, rfl⟩ <;> rcases get j y hj with ⟨hj1, hj2, hj3⟩ | ⟨hj1, rfl⟩
  ·exact M.dis i j x y g hi3 hj3 hij hx hy
  ·exact hd x hi2 g hy hx
  ·exact hd y hj2 g hx hy
  ·omega
 ·rcases bg8.1 hx with hx | hx
  ·exact M.ge x g hx hxg
  ·rw [bh3] at hx; subst hx; exact .inr (hg g hxg)
def mxS (ks : List b6) (k : Int) (i : Nat) : List b6 := (X2 ks k).take i ++ ks.drop i
theorem P2 : ∀ (ks : List b6) (k : Int), (X2 ks k).length = ks.length
 | [], _ => rfl
 | _ :: r, k => by simp [X2, P2 r]
theorem al5 (a b : List b6) : X4 (a ++ b) = X4 a + X4 b := by
 induction a with
 | nil => simp [X4]
 | cons x r ih => simp only [List.cons_append, X4, ih]; omega
theorem az4 : ∀ (ks : List b6) (k : Int) (i : Nat) (h : i < ks.length), (X2 ks k)[i]? = some (mkS ks[i] (k + X4 (ks.take i)))
 | [], _, i, h => by simp at h
 | e :: r, k, 0, _ => by simp [X2, X4]
 | e :: r, k, i + 1, h => by
  simp only [X2, List.getElem?_cons_succ, List.getElem_cons_succ, List.take_succ_cons, X4]
  rw [az4 r _ i (by simpa using h)]
  congr 2
  omega
theorem a06 (ks : List b6) (k : Int) {i : Nat} (h : i ≤ ks.length) : (mxS ks k i).length = ks.length := by simp [mxS, P2]; omega
theorem aS9 (ks : List b6) (k : Int) : mxS ks k 0 = ks := by simp [mxS]
theorem a07 (ks : List b6) (k : Int) : mxS ks k ks.length = X2 ks k := by
 unfold mxS; rw [List.drop_length, List.append_nil, bf6 (by rw [P2]; exact bf5 _)]
theorem a78 (ks : List b6) (k : Int) {i : Nat} (h : i < ks.length) : (mxS ks k i)[i]? = some ks[i] := by
 unfold mxS
 rw [bh6 (by rw [bi5]; omega), bi5, P2, Nat.min_eq_left (by omega), Nat.sub_self, List.getElem?_drop, bi2, be9 h]
theorem aT0 (ks : List b6) (k : Int) {i : Nat} (h : i < ks.length) : mxS ks k (i + 1) = (mxS ks k i).set i (mkS ks[i] (k + X4 (ks.take i))) := by
 have hl : ((X2 ks k).take i).length = i := by rw [bi5, P2]; omega
 have hg := az4 ks k i h
 have hi : i < (X2 ks k).length := by rw [P2]; exact h
 rw [be9 hi] at hg
 have hg' := Option.some.inj hg
 unfold mxS
 rw [List.set_append_right _ _ (by omega), hl, Nat.sub_self, List.drop_eq_getElem_cons h, List.set_cons_zero, s8 _ _ hi, hg']
 simp
mutual
theorem az5 : ∀ s : b6, 0 ≤ az6 s ∧ az6 s ≤ 7 * (1 + szS s)
 | ⟨_, _, i, v, _, b, e⟩ => by
  have h1 := F8 b
  have h2 := F8 e
  simp only [az6, szS]
  omega
theorem F8 : ∀ ss : List b6, 0 ≤ X4 ss ∧ X4 ss ≤ 7 * t7 ss
 | [] => by simp [X4, t7]
 | s :: r => by
  have h1 := az5 s
  have h2 := F8 r
  simp only [X4, t7]
  omega
end
theorem aM5 {ks : List b6} {k : Nat} (h : k < ks.length) : X4 (ks.take (k + 1)) = X4 (ks.take k) + az6 ks[k] := by
 rw [s8 _ _ h, al5]; simp [X4]
theorem aT9 (ks : List b6) (k : Nat) : X4 ks = X4 (ks.take k) + X4 (ks.drop k) := by
 have := al5 (ks.take k) (ks.drop k)
 rwa [List.take_append_drop] at this
theorem aU0 (s : b6) : az6 s = 7 + 2 * m6 s.index.kids + 2 * m6 s.value.kids + X4 s.body + X4 s.els := by
 rcases s with ⟨_, _, ⟨_, _, _⟩, ⟨_, _, _⟩, _, _, _⟩; simp only [az6, B9]; rfl
theorem a15 (s : b6) (y A B : Int) (hA : A = 2 * m6 s.index.kids) (hB : B = 2 * m6 s.value.kids) :
  mkS s y = ⟨y, y + 1, ⟨y + 1 + 1, y + 1 + 1 + 1, W4 s.index.kids (y + 1 + 1 + 1 + 1)⟩, ⟨y + 1 + 1 + 1 + 1 + A, y + 1 + 1 + 1 + 1 + A + 1, W4 s.value.kids (y + 1 + 1 + 1 + 1 + A + 1 + 1)⟩,
   y + 1 + 1 + 1 + 1 + A + 1 + 1 + B, X2 s.body (y + 1 + 1 + 1 + 1 + A + 1 + 1 + B + 1), X2 s.els (y + 1 + 1 + 1 + 1 + A + 1 + 1 + B + 1 + X4 s.body)⟩ := by
 rcases s with ⟨_, _, ⟨_, _, _⟩, ⟨_, _, _⟩, _, _, _⟩
 simp only [b6.index, b6.value, b6.body, b6.els, b7.kids] at hA hB ⊢
 subst hA hB
 simp only [mkS, mkE, B9, b6.mk.injEq, b7.mk.injEq, true_and]
 refine ⟨⟨by omega, by omega, by congr 1; omega⟩, ⟨by omega, by omega, by congr 1; omega⟩, by omega, by congr 1; omega, by congr 1; omega⟩
section
variable {w : World}
mutual
theorem C8.cut : ∀ (e : b7) (S : Nat → Prop) (cs : List Value), C8 w e S cs → C8 w e (fun b => S b ∧ b < w.heap.size) cs
 | ⟨_, _, ks⟩, _, _, ⟨v, xs, S', h1, h2, h3, h4, h5⟩ => ⟨v, xs, fun b => S' b ∧ b < w.heap.size, h1, h2, fun g hg => ⟨⟨(h3 g hg).1, (World.ownsRow.lt h2 g hg).2⟩, fun h => (h3 g hg).2 h.1⟩, fun b hb => ⟨h4 b hb.1, hb.2⟩, n9.cut ks S' xs h5⟩
theorem n9.cut : ∀ (ks : List b7) (S : Nat → Prop) (xs : List Value), n9 w ks S xs → n9 w ks (fun b => S b ∧ b < w.heap.size) xs
 | [], _, _, h => h
 | e :: r, _, _, ⟨c, ys, S1, S2, h1, h2, h3, h4, h5⟩ => ⟨c, ys, fun b => S1 b ∧ b < w.heap.size, fun b => S2 b ∧ b < w.heap.size, h1, fun b hb => ⟨⟨(h2 b hb.1).1, hb.2⟩, fun h => (h2 b hb.1).2 h.1⟩, fun b hb => ⟨h3 b hb.1, hb.2⟩, C8.cut e S1 c h4, n9.cut r S2 ys h5⟩
end
theorem t9.cut {v : Value} {ks : List b7} {S : Nat → Prop} (h : t9 w v ks S) : t9 w v ks (fun b => S b ∧ b < w.heap.size) := by
 obtain ⟨xs, S', h2, h3, h4, h5⟩ := h
 exact ⟨xs, fun b => S' b ∧ b < w.heap.size, h2, fun g hg => ⟨⟨(h3 g hg).1, (World.ownsRow.lt h2 g hg).2⟩, fun h => (h3 g hg).2 h.1⟩, fun b hb => ⟨h4 b hb.1, hb.2⟩, n9.cut ks S' xs h5⟩
mutual
theorem C6.cut : ∀ (s : b6) (S : Nat → Prop) (cs : List Value), C6 w s S cs → C6 w s (fun b => S b ∧ b < w.heap.size) cs
 | ⟨_, _, _, _, _, b, e⟩, _, _, ⟨iv, vv, bv, ev, xb, xe, Si, Sv, Sb, Se, Sb', Se', h1, ⟨d1, d2, d3, d4⟩, h2, h3, ⟨b1, b2, b3, b4⟩, ⟨e1, e2, e3, e4⟩⟩ =>
  ⟨iv, vv, bv, ev, xb, xe, fun b => Si b ∧ b < w.heap.size, fun b => Sv b ∧ b < w.heap.size, fun b => Sb b ∧ b < w.heap.size, fun b => Se b ∧ b < w.heap.size, fun b => Sb' b ∧ b < w.heap.size, fun b => Se' b ∧ b < w.heap.size, h1,
   ⟨fun b hb => ⟨⟨(d1 b hb.1).1, hb.2⟩, fun h => (d1 b hb.1).2.1 h.1, fun h => (d1 b hb.1).2.2.1 h.1, fun h => (d1 b hb.1).2.2.2 h.1⟩, fun b hb => ⟨⟨(d2 b hb.1).1, hb.2⟩, fun h => (d2 b hb.1).2.1 h.1, fun h => (d2 b hb.1).2.2 h.1⟩,
    fun b hb => ⟨⟨(d3 b hb.1).1, hb.2⟩, fun h => (d3 b hb.1).2 h.1⟩, fun b hb => ⟨d4 b hb.1, hb.2⟩⟩, h2.cut, h3.cut,
   ⟨b1, fun g hg => ⟨⟨(b2 g hg).1, (World.ownsRow.lt b1 g hg).2⟩, fun h => (b2 g hg).2 h.1⟩, fun b hb => ⟨b3 b hb.1, hb.2⟩, n8.cut b Sb' xb b4⟩,
   ⟨e1, fun g hg => ⟨⟨(e2 g hg).1, (World.ownsRow.lt e1 g hg).2⟩, fun h => (e2 g hg).2 h.1⟩, fun b hb => ⟨e3 b hb.1, hb.2⟩, n8.cut e Se' xe e4⟩⟩
theorem n8.cut : ∀ (ks : List b6) (S : Nat → Prop) (xs : List Value), n8 w ks S xs → n8 w ks (fun b => S b ∧ b < w.heap.size) xs
 | [], _, _, h => h
 | e :: r, _, _, ⟨c, ys, S1, S2, h1, h2, h3, h4, h5⟩ => ⟨c, ys, fun b => S1 b ∧ b < w.heap.size, fun b => S2 b ∧ b < w.heap.size, h1, fun b hb => ⟨⟨(h2 b hb.1).1, hb.2⟩, fun h => (h2 b hb.1).2 h.1⟩, fun b hb => ⟨h3 b hb.1, hb.2⟩, C6.cut e S1 c h4, n8.cut r S2 ys h5⟩
end
theorem t5.cut {v : Value} {ks : List b6} {S : Nat → Prop} (h : t5 w v ks S) : t5 w v ks (fun b => S b ∧ b < w.heap.size) := by
 obtain ⟨xs, S', h2, h3, h4, h5⟩ := h
 exact ⟨xs, fun b => S' b ∧ b < w.heap.size, h2, fun g hg => ⟨⟨(h3 g hg).1, (World.ownsRow.lt h2 g hg).2⟩, fun h => (h3 g hg).2 h.1⟩, fun b hb => ⟨h4 b hb.1, hb.2⟩, n8.cut ks S' xs h5⟩
end
section
variable {φ ψ : Nat → Prop} {w0 w : World} {L : List N2}
theorem A0.elemSet (M : A0 φ ψ w0 w L) (i : Nat) {e : TypeId} {sz n cap g p : Nat} {xs cs : List Value} (hi : L[i]? = some (.row e sz (.slice (some ⟨g, 0, none⟩) n cap) n (Go.Proofs.Ytgmhmijcnlfmfaa.setFrom xs p cs))) (hp : p + cs.length ≤ xs.length) (k : Nat) (hk : k < cs.length) (u : Value) {o : Nat} (ho : o = p + k) :
  A0 φ ψ w0 (w.setCell ⟨g, o, none⟩ u) (L.set i (.row e sz (.slice (some ⟨g, 0, none⟩) n cap) n (Go.Proofs.Ytgmhmijcnlfmfaa.setFrom xs p (cs.set k u)))) := by
 subst ho
 rw [← W8 u hp hk]
 exact M.rowSet i hi (by rw [D9]; omega) u
theorem A0.elemCell (M : A0 φ ψ w0 w L) (i : Nat) {e : TypeId} {sz n cap g p : Nat} {xs cs : List Value} (hi : L[i]? = some (.row e sz (.slice (some ⟨g, 0, none⟩) n cap) n (Go.Proofs.Ytgmhmijcnlfmfaa.setFrom xs p cs))) (hn : 0 < n) (hp : p + cs.length ≤ xs.length) (k : Nat) {u : Value} (hk : cs[k]? = some u) {o : Nat} (ho : o = p + k) :
  w.cell? ⟨g, o, none⟩ = some u := by
 subst ho
 obtain ⟨g', cap', hv, -, -, -, -, -, -, hc⟩ := (I5.mk' (M.r i hi)).open hn
 cases hv
 refine hc (p + k) u ?_
 have := (bf3.1 hk).1
 rw [P7 _ _ _ _ hp, if_pos (by omega), Nat.add_sub_cancel_left, hk]
theorem A0.rowFree (M : A0 φ ψ w0 w L) (i : Nat) {e : TypeId} {sz n cap g : Nat} {xs : List Value} (hi : L[i]? = some (.row e sz (.slice (some ⟨g, 0, none⟩) n cap) n xs)) (hn : 0 < n) : ∀ o, w.frozen? ⟨g, o, none⟩ = false := by
 obtain ⟨g', cap', hv, -, -, -, -, -, hf, -⟩ := (I5.mk' (M.r i hi)).open hn
 cases hv
 exact hf
end
def aD1 (ss : List b6) : Prop := ∀ (v : Value) (k : Int) (w : World) (S : Nat → Prop), t5 w v ss S → 0 ≤ k → k + X4 ss ≤ 9000000000000000000 →
 Calls Try.prog 123 #[v, .int .i64 k] w fun x w' => x = .returned (.int .i64 (k + X4 ss)) ∧ t5 w' v (X2 ss k) S ∧ v9 (fun b => ¬ S b) w w'
theorem U5 (ks : List b6) (ih : ∀ s ∈ ks, aD1 s.body ∧ aD1 s.els) : aD1 ks := by
 intro v k0 w S h hk0 hkb
 obtain ⟨xs, S', ho, hg, hs, hx⟩ := h
 obtain ⟨a, cap, rfl⟩ := Y8 ho
 have hm : ks.length ≤ 9223372036854775807 := (M9 ho).len
 have HG := show Hid _ from hg
 have HS := show Hid _ from hs
 have HX := show Hid _ from hx
 have HO := show Hid _ from ho
 have HKB := show Hid _ from hkb
 clear hg hs hx ho hkb
 go_enter Try.func123, Try.ntmps123
 go_wp2_with fail
 go_loopw [1, 5] (fun q i wr => ∃ (j : Nat) (y : Int) (xs : List Value), j ≤ ks.length ∧ i = .int .i64 j ∧ q = .int .i64 y ∧ y = k0 + X4 (ks.take j) ∧ wr.ownsRow 0 161 11 (.slice a ks.length cap) ks.length xs ∧ n8 wr (mxS ks k0 j) S' xs ∧ v9 (fun b => ¬ S b) w wr) (fun _ i _ => ks.length - (intOf i).toNat)
 case atStart => exact ⟨0, k0, xs, bg3 _, rfl, rfl, by simp [X4], HO.out, by rw [aS9]; exact HX.out, v9.refl _ _⟩
 case round =>
  obtain ⟨j, y, xs, hj, rfl, rfl, hy, ho, hx, hkp⟩ := hrel
  have HY := show Hid _ from hy
  have HKP := show Hid _ from hkp
  have HX1 := show Hid _ from hx
  have HO1 := show Hid _ from ho
  clear hy hkp hx ho
  by_cases hlt : j < ks.length
  ·have hlen := a06 ks k0 hj
   obtain ⟨c, Sc, f1, f2, f3, f4⟩ := HX1.out.focus j (by omega)
   have hge := a78 ks k0 hlt
   rw [be9 (by omega)] at hge
   rw [Option.some.inj hge] at f1
   obtain ⟨iv, vv, bv, ev, Si, Sv, Sb, Se, rfl, ⟨d1, d2, d3, d4⟩, o1, o2, o3, o4⟩ := (C6.iff _ _ _).1 f1
   obtain ⟨g, cap', hv, -, hg2, hg3, -, -, -, -⟩ := (I5.mk' HO1.out).open (by omega)
   cases hv
   have hxl : xs.length = ks.length * 11 := HO1.out.1
   have hmx := aT0 ks k0 hlt
   rw [← HY.out] at hmx
   have hih := ih _ (bg4 hlt)
   have ht1 := aM5 hlt
   have hdr := aT9 ks (j + 1)
   obtain ⟨s, hsj⟩ : ∃ s, s = ks[j] := ⟨_, rfl⟩
   rw [← hsj] at f1 f3 o1 o2 o3 o4 hih hmx ht1
   have hdef := aU0 s
   have hnb := (F8 s.body).1
   have hne := (F8 s.els).1
   have hnt := (F8 (ks.take j)).1
   have hnd := (F8 (ks.drop (j + 1))).1
   obtain ⟨A, hA⟩ : ∃ A : Int, A = 2 * m6 s.index.kids := ⟨_, rfl⟩
   obtain ⟨B, hB⟩ : ∃ B : Int, B = 2 * m6 s.value.kids := ⟨_, rfl⟩
   obtain ⟨C, hC⟩ : ∃ C : Int, C = X4 s.body := ⟨_, rfl⟩
   obtain ⟨D, hD⟩ : ∃ D : Int, D = X4 s.els := ⟨_, rfl⟩
   have hA0 : 0 ≤ A := by omega
   have hB0 : 0 ≤ B := by omega
   have hC0 : 0 ≤ C := by omega
   have hD0 : 0 ≤ D := by omega
   have hy0 : 0 ≤ y := by have := HY.out; omega
   have hy1 : y + 7 + A + B + C + D ≤ 9000000000000000000 := by have := HY.out; have := HKB.out; omega
   have hyn : y + 7 + A + B + C + D = k0 + X4 (ks.take (j + 1)) := by have := HY.out; omega
   have hmk := a15 s y A B hA hB
   rw [← hC] at hmk
   have hp : j * 11 + 11 ≤ xs.length := by omega
   have hxs : setFrom xs (j * 11) [.int .i64 s.kind, .int .i64 s.target, .int .i64 s.index.kind, .int .i64 s.index.value, iv, .int .i64 s.value.kind, .int .i64 s.value.value, vv, .int .i64 s.count, bv, ev] = xs := U1 hp f3
   have hgS' : ¬ S' g := (HG.out g rfl).2
   have hgc : ¬ Sc g := fun h => hgS' (f2 g h)
   have M : A0 (fun _ => True) (fun b => ¬ (b = g ∨ Sc b)) wr wr [.row 161 11 (.slice (some ⟨g, 0, none⟩) ks.length cap) ks.length (setFrom xs (j * 11) [.int .i64 s.kind, .int .i64 s.target, .int .i64 s.index.kind, .int .i64 s.index.value, iv, .int .i64 s.value.kind, .int .i64 s.value.value, vv, .int .i64 s.count, bv, ev]),
     .own (fun b => Si b ∧ b < wr.heap.size) (fun w => t9 w iv s.index.kids (fun b => Si b ∧ b < wr.heap.size)), .own (fun b => Sv b ∧ b < wr.heap.size) (fun w => t9 w vv s.value.kids (fun b => Sv b ∧ b < wr.heap.size)),
     .own (fun b => Sb b ∧ b < wr.heap.size) (fun w => t5 w bv s.body (fun b => Sb b ∧ b < wr.heap.size)), .own (fun b => Se b ∧ b < wr.heap.size) (fun w => t5 w ev s.els (fun b => Se b ∧ b < wr.heap.size))] := by
    rw [hxs]
    refine (((((A0.start fun _ _ => trivial).adopt (.row 161 11 (.slice (some ⟨g, 0, none⟩) ks.length cap) ks.length xs) ?_ bf4 HO1.out ?_ ?_).adopt (.own (fun b => Si b ∧ b < wr.heap.size) _) ?_ bf4 ⟨fun _ _ h hs => t9.same h hs, o1.cut, fun _ h => h.2⟩ ?_ ?_).adopt (.own (fun b => Sv b ∧ b < wr.heap.size) _) ?_ bf4 ⟨fun _ _ h hs => t9.same h hs, o2.cut, fun _ h => h.2⟩ ?_ ?_).adopt (.own (fun b => Sb b ∧ b < wr.heap.size) _) ?_ bf4 ⟨fun _ _ h hs => t5.same h hs, o3.cut, fun _ h => h.2⟩ ?_ ?_).adopt (.own (fun b => Se b ∧ b < wr.heap.size) _) ?_ bf4 ⟨fun _ _ h hs => t5.same h hs, o4.cut, fun _ h => h.2⟩ ?_ ?_
    ·intro a ha; cases ha
    ·intro a ha; cases ha
    ·intro g' hg' hn; cases hg'; exact hn (.inl rfl)
    ·intro a ha; simp at ha; subst ha; trivial
    ·intro a ha g' hg' h; simp at ha; subst ha; cases h; exact hgc (d1 _ hg'.1).1
    ·intro g' hg' hn; exact hn (.inr (d1 _ hg'.1).1)
    ·intro a ha; simp at ha; rcases ha with rfl | rfl <;> trivial
    ·intro a ha g' hg' h; simp at ha; rcases ha with rfl | rfl
     ·cases h; exact hgc (d2 _ hg'.1).1
     ·exact (d1 _ h.1).2.1 hg'.1
    ·intro g' hg' hn; exact hn (.inr (d2 _ hg'.1).1)
    ·intro a ha; simp at ha; rcases ha with rfl | rfl | rfl <;> trivial
    ·intro a ha g' hg' h; simp at ha; rcases ha with rfl | rfl | rfl
     ·cases h; exact hgc (d3 _ hg'.1).1
     ·exact (d1 _ h.1).2.2.1 hg'.1
     ·exact (d2 _ h.1).2.1 hg'.1
    ·intro g' hg' hn; exact hn (.inr (d3 _ hg'.1).1)
    ·intro a ha; simp at ha; rcases ha with rfl | rfl | rfl | rfl <;> trivial
    ·intro a ha g' hg' h; simp at ha; rcases ha with rfl | rfl | rfl | rfl
     ·cases h; exact hgc (d4 _ hg'.1)
     ·exact (d1 _ h.1).2.2.2 hg'.1
     ·exact (d2 _ h.1).2.2 hg'.1
     ·exact (d3 _ h.1).2 hg'.1
    ·intro g' hg' hn; exact hn (.inr (d4 _ hg'.1))
   have hn0 : 0 < ks.length := by omega
   have HIH := show Hid _ from hih
   have HF := show Hid _ from And.intro f2 (And.intro f4 (And.intro hmx (And.intro hmk hyn)))
   have HD := show Hid _ from And.intro d1 (And.intro d2 (And.intro d3 d4))
   have HE := show Hid _ from And.intro hA (And.intro hB (And.intro hC hD))
   have HGS := show Hid _ from hgS'
   have HP := show Hid _ from hp
   clear hih f1 f2 f3 f4 hmx hmk hyn d1 d2 d3 d4 o1 o2 o3 o4 hA hB hC hD hgS' hgc hxs hxl hlen hge ht1 hdr hdef hnb hne hnt hnd hsj hp
   have fz := M.rowFree 0 rfl hn0
   have e0 := M.elemCell 0 rfl hn0 HP.out 0 rfl (o := j * 11) rfl
   have e1 := M.elemCell 0 rfl hn0 HP.out 1 rfl rfl
   have e2 := M.elemCell 0 rfl hn0 HP.out 2 rfl rfl
   have e3 := M.elemCell 0 rfl hn0 HP.out 3 rfl rfl
   have e4 := M.elemCell 0 rfl hn0 HP.out 4 rfl rfl
   have M1 := (((M.elemSet 0 rfl HP.out 0 (by simp) (.int .i64 y) (o := j * 11) rfl).elemSet 0 rfl HP.out 1 (by simp) (.int .i64 (y + 1)) rfl).elemSet 0 rfl HP.out 2 (by simp) (.int .i64 (y + 1 + 1)) rfl).elemSet 0 rfl HP.out 3 (by simp) (.int .i64 (y + 1 + 1 + 1)) rfl
   have HM := show Hid _ from M1
   clear M M1
   go_wp2_with fail
   have M := HM.out
   clear HM fz e0 e1 e2 e3 e4
   refine (R2 s.index.kids iv (y + 1 + 1 + 1 + 1) _ _ (M.o 1 rfl) (by omega) (by have := HE.out.1; omega)).mono ?_
   rintro x w1 ⟨rfl, k1, kp1⟩
   rw [← HE.out.1]
   replace M := M.turn 1 rfl kp1 (fun _ _ h hs => t9.same h hs) k1
   clear k1 kp1
   have fz := M.rowFree 0 rfl hn0
   have e5 := M.elemCell 0 rfl hn0 HP.out 5 rfl rfl
   have e6 := M.elemCell 0 rfl hn0 HP.out 6 rfl rfl
   have e7 := M.elemCell 0 rfl hn0 HP.out 7 rfl rfl
   have M1 := (M.elemSet 0 rfl HP.out 5 (by simp) (.int .i64 (y + 1 + 1 + 1 + 1 + A)) rfl).elemSet 0 rfl HP.out 6 (by simp) (.int .i64 (y + 1 + 1 + 1 + 1 + A + 1)) rfl
   have HM := show Hid _ from M1
   clear M M1
   go_wp2_with fail
   have M := HM.out
   clear HM fz e5 e6 e7
   refine (R2 s.value.kids vv (y + 1 + 1 + 1 + 1 + A + 1 + 1) _ _ (M.o 2 rfl) (by omega) (by have := HE.out.2.1; omega)).mono ?_
   rintro x w2 ⟨rfl, k1, kp1⟩
   rw [← HE.out.2.1]
   replace M := M.turn 2 rfl kp1 (fun _ _ h hs => t9.same h hs) k1
   clear k1 kp1
   have fz := M.rowFree 0 rfl hn0
   have e8 := M.elemCell 0 rfl hn0 HP.out 8 rfl rfl
   have e9 := M.elemCell 0 rfl hn0 HP.out 9 rfl rfl
   have M1 := M.elemSet 0 rfl HP.out 8 (by simp) (.int .i64 (y + 1 + 1 + 1 + 1 + A + 1 + 1 + B)) rfl
   have HM := show Hid _ from M1
   clear M M1
   go_wp2_with fail
   have M := HM.out
   clear HM fz e8 e9
   refine (HIH.out.1 bv (y + 1 + 1 + 1 + 1 + A + 1 + 1 + B + 1) _ _ (M.o 3 rfl) (by omega) (by have := HE.out.2.2.1; omega)).mono ?_
   rintro x w3 ⟨rfl, k1, kp1⟩
   rw [← HE.out.2.2.1]
   replace M := M.turn 3 rfl kp1 (fun _ _ h hs => t5.same h hs) k1
   clear k1 kp1
   have e10 := M.elemCell 0 rfl hn0 HP.out 10 rfl rfl
   have HM := show Hid _ from M
   clear M
   go_wp2_with fail
   have M := HM.out
   clear HM e10
   refine (HIH.out.2 ev (y + 1 + 1 + 1 + 1 + A + 1 + 1 + B + 1 + C) _ _ (M.o 4 rfl) (by omega) (by have := HE.out.2.2.2; omega)).mono ?_
   rintro x w4 ⟨rfl, k1, kp1⟩
   rw [← HE.out.2.2.2]
   replace M := M.turn 4 rfl kp1 (fun _ _ h hs => t5.same h hs) k1
   clear k1 kp1
   have HM := show Hid _ from M
   clear M
   obtain ⟨z, hz⟩ : ∃ z : Int, z = y + 1 + 1 + 1 + 1 + A + 1 + 1 + B + 1 + C + D := ⟨_, rfl⟩
   have HZ := show Hid _ from hz
   rw [← hz]
   have hz0 : 0 ≤ z := by omega
   have hz1 : z ≤ 9000000000000000000 := by omega
   have HY1 := show Hid _ from hy1
   clear hz hy1
   go_wp2_with fail
   have M := HM.out
   obtain ⟨f2, f4, hmx, hmk, hyn⟩ := HF.out
   obtain ⟨d1, d2, d3, d4⟩ := HD.out
   have hO : C6 w4 (mkS s y) Sc [.int .i64 y, .int .i64 (y + 1), .int .i64 (y + 1 + 1), .int .i64 (y + 1 + 1 + 1), iv, .int .i64 (y + 1 + 1 + 1 + 1 + A), .int .i64 (y + 1 + 1 + 1 + 1 + A + 1), vv, .int .i64 (y + 1 + 1 + 1 + 1 + A + 1 + 1 + B), bv, ev] := by
    rw [hmk]
    exact (C6.iff _ _ _).2 ⟨iv, vv, bv, ev, Si, Sv, Sb, Se, rfl, ⟨d1, d2, d3, d4⟩, (M.o 1 rfl).mono fun _ h => h.1, (M.o 2 rfl).mono fun _ h => h.1, (M.o 3 rfl).mono fun _ h => h.1, (M.o 4 rfl).mono fun _ h => h.1⟩
   have hX := f4 w4 (mkS s y) _ (fun b hb hn hl => M.kept.block b hl fun h => h.elim (fun h => HGS.out (h ▸ hb)) hn) hO
   rw [← hmx] at hX
   refine ⟨⟨j + 1, _, _, by omega, by go_num, rfl, by have := HZ.out; omega, M.r 0 rfl, hX, HKP.out.trans (M.kept.mono fun b hb h => hb (h.elim (fun h => h ▸ (HG.out g rfl).1) fun h => HS.out b (f2 b h)))⟩, by simp [intOf]; omega⟩
  ·have hjn : j = ks.length := by omega
   subst hjn
   go_wp2_with fail
   go_ret
   exact ⟨s6 (by have := HY.out; rw [bf6 (bf5 _)] at this; exact this), ⟨xs, S', by rw [P2]; exact HO1.out, HG.out, HS.out, by rw [← a07]; exact HX1.out⟩, HKP.out⟩
theorem ap1 (s : b6) : aD1 s.body ∧ aD1 s.els :=
 b6.ind (P := fun s => aD1 s.body ∧ aD1 s.els) (fun _ _ _ _ _ b e ihb ihe => ⟨U5 b ihb, U5 e ihe⟩) s
theorem ap0 (ks : List b6) : aD1 ks := U5 ks fun s _ => ap1 s
section
variable {P : Program}
structure T5 (wr w : World) (S : Nat → Prop) : Prop where
 below : Below wr.heap.size wr w
 box : ∀ b, S b → wr.heap.size ≤ b ∧ b < w.heap.size
theorem T5.start (w : World) : T5 w w.drew fun _ => False := ⟨(Below.refl _ _).drew, fun _ h => h.elim⟩
theorem T5.call {wr w w' : World} {S : Nat → Prop} (h : T5 wr w S) (b : Below w.heap.size w w') : T5 wr w' S := ⟨h.below.trans (b.mono h.below.size), fun c hc => ⟨(h.box c hc).1, bg6 (h.box c hc).2 b.size⟩⟩
theorem T5.new {wr w w' : World} {S : Nat → Prop} (h : T5 wr w S) (b : Below w.heap.size w w') (hs : w.heap.size < w'.heap.size) : T5 wr w' fun c => S c ∨ c = w.heap.size :=
 ⟨h.below.trans (b.mono h.below.size), fun c hc => by
  rcases hc with hc | rfl
  ·exact ⟨(h.box c hc).1, bg6 (h.box c hc).2 b.size⟩
  ·exact ⟨h.below.size, hs⟩⟩
def RF (φ S : Nat → Prop) (b : Nat) : Prop := φ b ∧ ¬ S b
theorem T5.fresh {wr w : World} {S φ : Nat → Prop} (h : T5 wr w S) (hf : ∀ b, wr.heap.size ≤ b → φ b) : ∀ b, w.heap.size ≤ b → RF φ S b := fun b hb => ⟨hf b (bi1 h.below.size hb), fun hs => by have := (h.box b hs).2; omega⟩
theorem T5.old {wr w : World} {S φ : Nat → Prop} (h : T5 wr w S) {R : World → (Nat → Prop) → Prop} (hn : V2 R) (hr : R wr φ) : R w (RF φ S) :=
 hn _ _ _ _ ⟨h.below.size, fun b hb hf => ⟨⟨hf, fun hs => by have := (h.box b hs).1; omega⟩, h.below.block b hb⟩⟩ hr
end
theorem A0.region {φ ψ : Nat → Prop} {w0 wr w : World} {L : List N2} {S : Nat → Prop} (M : A0 φ ψ w0 wr L) (hg : T5 wr w S) {g : Nat} {cs : List Value} (hb : P5 w g cs) (hs : S g) : A0 φ ψ w0 w (L ++ [.box g cs]) :=
 M.add hg.below _ hb fun g' h => by cases h; exact (hg.box _ hs).1
theorem RF.app {φ S : Nat → Prop} {L : List N2} {b : Nat} (h : RF (Fr φ L) S b) (X : List N2) (hX : ∀ r ∈ X, ∀ g, r.blk g → S g) : Fr φ (L ++ X) b :=
 ⟨h.1.1, fun r hr he => by
  rcases bg8.1 hr with hr | hr
  ·exact h.1.2 r hr he
  ·exact h.2 (hX r hr b he)⟩
section
variable {P : Program}
def Y3 (ops : Array Oper) : Bool := (bg0 ops.size).all fun j => (ops[j]?).any fun o => o.after.all fun e => !Region.binds .any e || decide (e.on < j)
theorem ao3 {ops : Array Oper} (hb : Y3 ops = true) {k : Nat} {o : Oper} (hk : k < ops.size) (ho : ops[k]? = some o) {e : Edge} (he : e ∈ o.after) (hbi : Region.binds .any e = true) : e.on < k := by
 have h1 := bf9.1 hb k (List.mem_range.2 hk)
 rw [ho] at h1
 simp only [Option.any_some] at h1
 have h2 := Array.all_eq_true'.1 h1 e he
 rw [hbi] at h2
 simpa using h2
theorem ay0 {ops : Array Oper} (hb : Y3 ops = true) {listed : Array Bool} (hsz : listed.size = ops.size) : ∀ k, k < ops.size → listed.getD k true = false → Region.ready .any ops listed ≠ [] := by
 intro k
 induction k using Nat.strongRecOn with
 | _ k ih =>
  intro hk hl hn
  by_cases hall : ∃ j, j < k ∧ listed.getD j true = false
  ·obtain ⟨j, hj, hlj⟩ := hall
   exact ih j hj (by omega) hlj hn
  ·have hok : ops[k]? = some ops[k] := Array.getElem?_eq_getElem hk
   have : k ∈ Region.ready .any ops listed := by
    refine mem_ready.2 ⟨hl, ops[k], hok, fun e he hbi => ?_⟩
    have h2 := ao3 hb hk hok he hbi
    cases h3 : listed.getD e.on true
    ·exact absurd ⟨e.on, h2, h3⟩ hall
    ·have : e.on < listed.size := by omega
     simp [this] at h3 ⊢
     exact h3
   rw [hn] at this
   cases this
theorem aJ9 {a : Array Bool} {j : Nat} (h : j < a.size) : a.getD j true = a.getD j false := by simp [h]
end
end Go.Proofs.Ytgmhmijcnlfmfaa

namespace Go.Proofs.Ytgmhmijcnlfmfaa
def C2 (k : Int) : Int := if k = 1 ∨ k = 2 then 0 else if k = 3 then 1 else if 4 ≤ k ∧ k ≤ 10 then 2 else if k = 11 then 3 else -1
def G2 (nv na : Nat) (k : Int) : Int := if k = 1 then 256 else if k = 2 then nv else if k = 3 then na else 1
def J5 (e : b7) : Bool := decide (e.kind = 1) || decide (e.kind = 2)
def E1 (nv na : Nat) (e : b7) : Bool := decide ((e.kids.length : Int) = C2 e.kind) && decide (0 ≤ e.value) && decide (e.value < G2 nv na e.kind)
def S9 (e : b7) : Bool := decide (e.kind ≠ 3) || (match e.kids with | k :: _ => J5 k | [] => false)
def l5 (nv na : Nat) : Nat → b7 → Bool
 | 0, _ => false
 | d + 1, e => E1 nv na e && e.kids.all (l5 nv na d) && S9 e
def W5 : Nat → b7 → Nat
 | 0, _ => 1
 | d + 1, e => 1 + (e.kids.map (W5 d)).sum
def l8 (nv na : Nat) (e : b7) : Bool := l5 nv na 5 e && decide (1 + B9 e ≤ 15)
theorem G0 (e : b7) : B9 e = m6 e.kids := by cases e; rfl
theorem aB4 (nv na : Nat) : ∀ (d : Nat) (e : b7), l5 nv na d e = true → W5 d e = 1 + B9 e := by
 intro d
 induction d with
 | zero => intro e h; simp [l5] at h
 | succ d ih =>
  intro e h
  simp only [l5, bf0, bf9] at h
  rw [W5, G0]
  have key : ∀ ks : List b7, (∀ e ∈ ks, l5 nv na d e = true) → (ks.map (W5 d)).sum = m6 ks := by
   intro ks
   induction ks with
   | nil => intro _; rfl
   | cons a r ihr => intro hk; rw [bh1, List.sum_cons, m6, ihr fun e he => hk e (bg5 _ he), ih a (hk a bg2)]
  rw [key _ h.1.2]
theorem aF1 (nv na : Nat) (e : b7) : l8 nv na e = (l5 nv na 5 e && decide (W5 5 e ≤ 15)) := by
 unfold l8
 cases h : l5 nv na 5 e
 ·rfl
 ·rw [aB4 nv na 5 e h]
def A2 (nv na : Nat) (d c : Nat) (e : b7) : Bool := l5 nv na d e && decide (c + 1 + B9 e ≤ 15)
def w7 (nv na : Nat) (d c : Nat) (ks : List b7) (k : Nat) : Bool := (ks.take k).all (l5 nv na d) && decide (c + m6 (ks.take k) ≤ 15)
theorem aq3 {ks : List b7} {k : Nat} (h : k < ks.length) : m6 (ks.take (k + 1)) = m6 (ks.take k) + (1 + B9 ks[k]) := by
 rw [J3 _ _ h, M5]
 simp [m6]
theorem as3 (ks : List b7) (k : Nat) : m6 (ks.take k) ≤ m6 ks := by
 have := M5 (ks.take k) (ks.drop k)
 rw [List.take_append_drop] at this
 omega
theorem O2 (nv na : Nat) {d c : Nat} {ks : List b7} {k : Nat} (h : k < ks.length) : w7 nv na d c ks (k + 1) = (w7 nv na d c ks k && A2 nv na d (c + m6 (ks.take k)) ks[k]) := by
 unfold w7 A2
 rw [aq3 h, J3 _ _ h, List.all_append]
 simp only [List.all_cons, List.all_nil, Bool.and_true]
 rw [bh0]
 simp only [bf0, decide_eq_true_eq]
 constructor
 ·rintro ⟨⟨h1, h2⟩, h3⟩; exact ⟨⟨h1, by omega⟩, h2, by omega⟩
 ·rintro ⟨⟨h1, _⟩, h3, h4⟩; exact ⟨⟨h1, h3⟩, by omega⟩
theorem as9 (nv na : Nat) {d c : Nat} {ks : List b7} {k : Nat} (h : k < ks.length) (hs : A2 nv na d (c + m6 (ks.take k)) ks[k] = false) : (ks.all (l5 nv na d) && decide (c + m6 ks ≤ 15)) = false := by
 rw [Bool.eq_false_iff]
 intro ht
 simp only [bf0, decide_eq_true_eq, bf9] at ht
 have h1 := ht.1 _ (bg4 h)
 have h2 := as3 ks (k + 1)
 rw [aq3 h] at h2
 unfold A2 at hs
 rw [h1] at hs
 simp at hs
 omega
def noneB (e : b7) : Bool := decide (e.kind = 0) && decide (e.value = 0) && decide (e.kids.length = 0)
def t2 (s : b6) : Bool :=
 if (s.kind = 3 ∨ s.kind = 4) then
  decide (s.target = 0) && (if s.kind = 4 then decide (s.els.length = 0) && decide (1 ≤ s.count) && decide (s.count ≤ 3) && noneB s.index && noneB s.value
   else decide (s.count = 0) && noneB s.index)
 else decide (s.body.length = 0) && decide (s.els.length = 0) && decide (s.count = 0) && (decide (s.kind = 2) || noneB s.index)
def s9 (nv na : Nat) : Nat → b6 → Bool
  | 0, _ => false
  | d + 1, s => t2 s &&
    (if s.kind = 1 ∨ s.kind = 5 then decide (0 ≤ s.target) && decide (s.target < nv) && l8 nv na s.value
     else if s.kind = 2 then decide (0 ≤ s.target) && decide (s.target < na) && l8 nv na s.index && J5 s.index && l8 nv na s.value
     else if s.kind = 3 then l8 nv na s.value && s.body.all (s9 nv na d) && s.els.all (s9 nv na d)
     else if s.kind = 4 then s.body.all (s9 nv na d)
     else false)
def ac2 (nv na : Nat) (d : Nat) (ss : List b6) : Bool := ss.all (s9 nv na d)
mutual
def nS : b6 → Nat
 | ⟨_, _, _, _, _, b, e⟩ => 1 + nSs b + nSs e
def nSs : List b6 → Nat
 | [] => 0
 | s :: r => nS s + nSs r
end
def K7 (p : l9) : Bool := H7 p.vars p.arrays && ac2 p.vars.length p.arrays.length 5 p.body && decide (nSs p.body ≤ 60)
end Go.Proofs.Ytgmhmijcnlfmfaa

namespace Go.Proofs.Ytgmhmijcnlfmfaa
open Go Go.RowKit
theorem V5 (l : Int) (w : World) : Calls Try.prog 187 #[.int .i64 l] w fun e w' => e = .returned (.bool (F5 l)) ∧ w = w' := by
 go_enter Try.func187, Try.ntmps187
 go_wp2
 all_goals go_ret
 all_goals exact ⟨b9 (by simp [F5]; try omega), rfl⟩
theorem as6 (v1 v2 v3 : Value) (vars arrays : List Int) (w : World) (h1 : K5 w v1 vars.length 1 (ints vars)) (h2 : K5 w v2 arrays.length 1 (ints arrays)) :
  Calls Try.prog 140 #[.agg #[v1, v2, v3]] w fun e w' => e = .returned (.bool (H7 vars arrays)) ∧ Below w.heap.size w w' := by
 have B0 : Below w.heap.size w (w.alloc (.cells #[v1, v2, v3] 26)) := by go_grown
 obtain ⟨a1, c1, rfl, -, hm1, -, hc1⟩ := (h1.below B0).open1
 obtain ⟨a2, c2, rfl, -, hm2, -, hc2⟩ := (h2.below B0).open1
 have HT : Hid (H7 vars arrays = (vars.all F5 && arrays.all F5 && decide (1 ≤ vars.length) && decide (vars.length ≤ 12) && decide (arrays.length ≤ 2))) := rfl
 clear h1 h2
 go_enter Try.func140, Try.ntmps140
 go_wp2_with fail
 go_loop [3] (fun i => ∃ k : Nat, k ≤ vars.length ∧ i = .int .i64 k ∧ (vars.take k).all F5 = true) (fun i => vars.length - (intOf i).toNat)
 case atStart => exact ⟨0, bg3 _, rfl, rfl⟩
 case round =>
  obtain ⟨k, hk, rfl, ha⟩ := hrel
  have HA := show Hid _ from ha
  clear ha
  by_cases hlt : k < vars.length
  ·obtain ⟨b1, o1, rfl, hb1, hx⟩ := hc1 k hlt
   rw [T2 _ _ hlt] at hx
   have HS := show Hid _ from R5 F5 vars k hlt
   clear hc1 hc2
   cases hl : F5 vars[k]
   all_goals
    have HL := show Hid _ from hl
    clear hl
    go_wp2_with fail
    refine (V5 _ _).mono ?_
    rintro e w1 ⟨rfl, rfl⟩
    rw [HL.out]
    go_wp2_with fail
   ·go_ret
    exact ⟨b9 (by rw [HT.out, aj2 hlt HL.out]; rfl), B0⟩
   ·go_round
    case rel => exact ⟨k + 1, by omega, by go_num, by rw [HS.out, HA.out, HL.out]; rfl⟩
    case measure => simp [intOf]; omega
  ·have HA' := show Hid (vars.all F5 = true) from by have := HA.out; rwa [bf6 (by omega)] at this
   clear HA hc1
   go_wp2_with fail
   go_loop [4] (fun i => ∃ k : Nat, k ≤ arrays.length ∧ i = .int .i64 k ∧ (arrays.take k).all F5 = true) (fun i => arrays.length - (intOf i).toNat)
   case atStart => exact ⟨0, bg3 _, rfl, rfl⟩
   case round =>
    obtain ⟨j, hj, rfl, ha⟩ := hrel
    have HB := show Hid _ from ha
    clear ha
    by_cases hlj : j < arrays.length
    ·obtain ⟨b1, o1, rfl, hb1, hx⟩ := hc2 j hlj
     rw [T2 _ _ hlj] at hx
     have HS := show Hid _ from R5 F5 arrays j hlj
     clear hc2
     cases hl : F5 arrays[j]
     all_goals
      have HL := show Hid _ from hl
      clear hl
      go_wp2_with fail
      refine (V5 _ _).mono ?_
      rintro e w1 ⟨rfl, rfl⟩
      rw [HL.out]
      go_wp2_with fail
     ·go_ret
      exact ⟨b9 (by rw [HT.out, aj2 hlj HL.out]; simp), B0⟩
     ·go_round
      case rel => exact ⟨j + 1, by omega, by go_num, by rw [HS.out, HB.out, HL.out]; rfl⟩
      case measure => simp [intOf]; omega
    ·have HB' := show Hid (arrays.all F5 = true) from by have := HB.out; rwa [bf6 (by omega)] at this
     clear HB hc2
     go_wp2_with fail
     all_goals go_ret
     all_goals refine ⟨b9 ?_, B0⟩
     all_goals rw [HT.out, HA'.out, HB'.out]
     all_goals rw [bh0]
     all_goals simp
     all_goals omega
theorem aq8 {e : b7} (h3 : e.kind = 3) (hl : 0 < e.kids.length) : S9 e = (decide (e.kids[0].kind = 1) || decide (e.kids[0].kind = 2)) := by
 rcases e with ⟨k, n, ks⟩
 cases ks with
 | nil => simp [b7.kids] at hl
 | cons a r =>
  have h3' : k = 3 := h3
  subst h3'
  simp only [S9, b7.kids, List.getElem_cons_zero, J5]
  rw [decide_eq_false (by simp [b7.kind])]
  rfl
theorem ac3 {nv na d : Nat} {e : b7} (h : l5 nv na (d + 1) e = true) : e.kids.length ≤ 3 ∧ ∀ x ∈ e.kids, l5 nv na d x = true := by
 simp only [l5, E1, bf0, decide_eq_true_eq, bf9] at h
 refine ⟨?_, h.1.2⟩
 have h1 := h.1.1.1.1
 have : C2 e.kind ≤ 3 := by unfold C2; (repeat' split) <;> omega
 omega
theorem aE1 {ks : List b7} {B : Nat} (h : ∀ x ∈ ks, 1 + B9 x ≤ B) : m6 ks ≤ ks.length * B := by
 induction ks with
 | nil => simp [m6]
 | cons a r ih =>
  have h1 := h a bg2
  have h2 := ih fun x hx => h x (bg5 _ hx)
  simp only [m6, bi0, bg9]; omega
theorem aR1 (nv na : Nat) : ∀ (d : Nat) (e : b7), l5 nv na d e = true → 1 + B9 e ≤ 4 ^ d := by
 intro d
 induction d with
 | zero => intro e h; simp [l5] at h
 | succ d ih =>
  intro e h
  obtain ⟨h1, h2⟩ := ac3 h
  have h3 := aE1 (ks := e.kids) fun x hx => ih x (h2 x hx)
  have h4 : e.kids.length * 4 ^ d ≤ 3 * 4 ^ d := bi3 _ h1
  have h5 : 0 < 4 ^ d := Nat.pos_of_ne_zero (by simp)
  rw [G0, Nat.pow_succ]
  omega
theorem C0 (n lo hi : Int) (w : World) : Calls Try.prog 143 #[.int .i64 n, .int .i64 lo, .int .i64 hi] w fun e w' => e = .returned (.bool (decide (lo ≤ n) && decide (n ≤ hi))) ∧ w = w' := by
 go_enter Try.func143, Try.ntmps143
 go_wp2
 all_goals go_ret
 all_goals exact ⟨b9 (by simp; try omega), rfl⟩
theorem ai8 (l : Int) (w : World) : Calls Try.prog 90 #[.int .i64 l] w fun e w' => e = .returned (.bool (F5 l)) ∧ w = w' := by
 go_enter Try.func90, Try.ntmps90
 go_wp2_with fail
 refine (C0 l 0 3 _).mono ?_
 rintro e w1 ⟨rfl, rfl⟩
 go_wp2_with fail
 go_ret
 exact ⟨rfl, rfl⟩
theorem ai7 (l : Int) (w : World) : Calls Try.prog 190 #[.int .i64 l] w fun e w' => e = .returned (.bool (!F5 l)) ∧ w = w' := by
 go_enter Try.func190, Try.ntmps190
 go_wp2_with fail
 refine (ai8 l _).mono ?_
 rintro e w1 ⟨rfl, rfl⟩
 go_wp2_with fail
 go_ret
 exact ⟨rfl, rfl⟩
theorem ap2 (p : Int → Bool) (f : FuncId) (v : Value) (xs : List Int) (w : World) (h : K5 w v xs.length 1 (ints xs)) (he : ∀ args w, (callFunc f args).run Try.prog w = .ok (.enter f args) w)
  (hf : ∀ x w', Calls Try.prog f #[.int .i64 x] w' fun e w'' => e = .returned (.bool (p x)) ∧ w' = w'') :
  Calls Try.prog 231 #[v, .func (.func f) #[] #[]] w fun e w' => ∃ r : Int, e = .returned (.int .i64 r) ∧ decide (0 ≤ r) = xs.any p ∧ w = w' := by
 obtain ⟨a1, c1, rfl, -, hm1, -, hc1⟩ := h.open1
 have HF := show Hid _ from hf
 clear h hf
 go_enter Try.func231, Try.ntmps231
 go_wp2_with fail
 go_loop [5, 8] (fun _ i => ∃ k : Nat, k ≤ xs.length ∧ i = .int .i64 k ∧ (xs.take k).any p = false) (fun _ i => xs.length - (intOf i).toNat)
 case atStart => exact ⟨0, bg3 _, rfl, rfl⟩
 case round =>
  obtain ⟨k, hk, rfl, ha⟩ := hrel
  have HA := show Hid _ from ha
  clear ha
  by_cases hlt : k < xs.length
  ·obtain ⟨b1, o1, rfl, hb1, hx⟩ := hc1 k hlt
   rw [T2 _ _ hlt] at hx
   clear hc1
   cases hp : p xs[k]
   all_goals
    have HP := show Hid _ from hp
    clear hp
    go_wp2_with fail
    refine (HF.out xs[k] _).mono ?_
    rintro e w1 ⟨rfl, rfl⟩
    rw [HP.out]
    go_wp2_with fail
   ·go_round
    case rel => exact ⟨k + 1, by omega, by go_num, by rw [s8 _ _ hlt, List.any_append, HA.out]; simp [HP.out]⟩
    case measure => simp [intOf]; omega
   ·go_ret
    exact ⟨_, rfl, by rw [decide_eq_true (by omega)]; symm; rw [List.any_eq_true]; exact ⟨_, bg4 hlt, HP.out⟩, rfl⟩
  ·go_wp2_with fail
   go_ret
   refine ⟨_, rfl, ?_, rfl⟩
   have := HA.out
   rw [bf6 (by omega)] at this
   rw [this]; rfl
theorem ag5 (p : Int → Bool) (f : FuncId) (v : Value) (xs : List Int) (w : World) (h : K5 w v xs.length 1 (ints xs)) (he : ∀ args w, (callFunc f args).run Try.prog w = .ok (.enter f args) w)
  (hf : ∀ x w', Calls Try.prog f #[.int .i64 x] w' fun e w'' => e = .returned (.bool (p x)) ∧ w' = w'') :
  Calls Try.prog 189 #[v, .func (.func f) #[] #[]] w fun e w' => e = .returned (.bool (xs.any p)) ∧ w = w' := by
 obtain ⟨a1, c1, rfl, -⟩ := h.open1
 have HF := show Hid _ from hf
 have HE := show Hid _ from he
 clear hf he
 go_enter Try.func189, Try.ntmps189
 go_wp2_with fail
 refine (ap2 p f _ xs _ h HE.out HF.out).mono ?_
 rintro e w1 ⟨r, rfl, hr, rfl⟩
 have HR := show Hid _ from hr
 clear hr
 go_wp2_with fail
 go_ret
 exact ⟨b9 HR.out, rfl⟩
theorem aC8 (xs : List Int) : (!xs.any fun l => !F5 l) = xs.all F5 := by
 induction xs with
 | nil => rfl
 | cons x r ih => simp only [List.any_cons, List.all_cons, ← ih]; cases F5 x <;> simp
theorem P4 (v : Value) (xs : List Int) (w : World) (h : K5 w v xs.length 1 (ints xs)) :
  Calls Try.prog 144 #[v] w fun e w' => e = .returned (.bool (xs.all F5)) ∧ w = w' := by
 obtain ⟨a1, c1, rfl, -⟩ := h.open1
 go_enter Try.func144, Try.ntmps144
 go_wp2_with fail
 refine (ag5 (fun l => !F5 l) 190 _ xs _ h (ar7 Try.func190 (by kernel_rfl) rfl) (fun x w' => ai7 x w')).mono ?_
 rintro e w1 ⟨rfl, rfl⟩
 have HN := show Hid _ from aC8 xs
 go_wp2_with fail
 go_ret
 exact ⟨b9 HN.out, rfl⟩
theorem ap4 (v1 v2 : Value) (vars arrays : List Int) (w : World) (h1 : K5 w v1 vars.length 1 (ints vars)) (h2 : K5 w v2 arrays.length 1 (ints arrays)) :
  Calls Try.prog 69 #[v1, v2] w fun e w' => e = .returned (.bool (H7 vars arrays)) ∧ w = w' := by
 obtain ⟨a1, c1, rfl, -, q1, -⟩ := h1.open1
 obtain ⟨a2, c2, rfl, -, q2, -⟩ := h2.open1
 have HT : Hid (H7 vars arrays = (vars.all F5 && arrays.all F5 && decide (1 ≤ vars.length) && decide (vars.length ≤ 12) && decide (arrays.length ≤ 2))) := rfl
 by_cases hn : (1 : Int) ≤ (vars.length : Int) ∧ (vars.length : Int) ≤ 12
 ·have hb : (decide ((1 : Int) ≤ vars.length) && decide ((vars.length : Int) ≤ 12)) = true := by simpa using hn
  have HB := show Hid _ from hb
  by_cases hm : (arrays.length : Int) ≤ 2
  ·cases hv : vars.all F5
   ·have HV := show Hid _ from hv
    clear hv hb hn
    go_enter Try.func69, Try.ntmps69
    go_wp2_with fail
    refine (C0 _ 1 12 _).mono ?_
    rintro e w1 ⟨rfl, rfl⟩
    rw [HB.out]
    go_wp2_with fail
    refine (P4 _ vars _ h1).mono ?_
    rintro e w1 ⟨rfl, rfl⟩
    rw [HV.out]
    go_wp2_with fail
    go_ret
    exact ⟨b9 (by rw [HT.out, HV.out]; rfl), rfl⟩
   ·have HV := show Hid _ from hv
    have hn' := show Hid _ from hn
    have hm' := show Hid _ from hm
    clear hv hb hn
    go_enter Try.func69, Try.ntmps69
    go_wp2_with fail
    refine (C0 _ 1 12 _).mono ?_
    rintro e w1 ⟨rfl, rfl⟩
    rw [HB.out]
    go_wp2_with fail
    refine (P4 _ vars _ h1).mono ?_
    rintro e w1 ⟨rfl, rfl⟩
    rw [HV.out]
    go_wp2_with fail
    refine (P4 _ arrays _ h2).mono ?_
    rintro e w1 ⟨rfl, rfl⟩
    go_wp2_with fail
    go_ret
    refine ⟨b9 ?_, rfl⟩
    have h3 := hn'.out
    have h4 := hm'.out
    rw [HT.out, HV.out, decide_eq_true (show 1 ≤ vars.length by omega), decide_eq_true (show vars.length ≤ 12 by omega), decide_eq_true (show arrays.length ≤ 2 by omega)]
    simp
  ·have hF : Hid (H7 vars arrays = false) := by unfold Hid; rw [HT.out, decide_eq_false (show ¬ arrays.length ≤ 2 by omega)]; simp
   clear hb hn
   go_enter Try.func69, Try.ntmps69
   go_wp2_with fail
   refine (C0 _ 1 12 _).mono ?_
   rintro e w1 ⟨rfl, rfl⟩
   rw [HB.out]
   go_wp2_with fail
   go_ret
   exact ⟨b9 hF.out.symm, rfl⟩
 ·have hb : (decide ((1 : Int) ≤ vars.length) && decide ((vars.length : Int) ≤ 12)) = false := by
   rw [Bool.eq_false_iff]; simp only [ne_eq, bf0, decide_eq_true_eq]; exact hn
  have HB := show Hid _ from hb
  have hF : Hid (H7 vars arrays = false) := by
   unfold Hid; rw [HT.out]
   rcases Classical.not_and_iff_not_or_not.1 hn with h | h
   ·rw [decide_eq_false (show ¬ 1 ≤ vars.length by omega)]; simp
   ·rw [decide_eq_false (show ¬ vars.length ≤ 12 by omega)]; simp
  clear hb hn
  go_enter Try.func69, Try.ntmps69
  go_wp2_with fail
  refine (C0 _ 1 12 _).mono ?_
  rintro e w1 ⟨rfl, rfl⟩
  rw [HB.out]
  go_wp2_with fail
  go_ret
  exact ⟨b9 hF.out.symm, rfl⟩
theorem ad6 (k n : Int) (kv : Value) (w : World) : Calls Try.prog 191 #[.agg #[.int .i64 k, .int .i64 n, kv]] w fun e w' => e = .returned (.bool (decide (k = 1) || decide (k = 2))) ∧ Below w.heap.size w w' := by
 by_cases h1 : k = 1
 ·have p1 : (k == 1) = true := by simp [h1]
  have Q := show Hid _ from h1
  clear h1
  go_enter Try.func191, Try.ntmps191
  go_wp2
  go_ret
  exact ⟨b9 (by simp [Q.out]), by go_grown⟩
 ·have p1 : (k == 1) = false := by simp [h1]
  have Q := show Hid _ from h1
  clear h1
  by_cases h2 : k = 2
  ·have p2 : (k == 2) = true := by simp [h2]
   have Q2 := show Hid _ from h2
   clear h2
   go_enter Try.func191, Try.ntmps191
   go_wp2
   go_ret
   exact ⟨b9 (by simp [Q2.out]), by go_grown⟩
  ·have p2 : (k == 2) = false := by simp [h2]
   have Q2 := show Hid _ from h2
   clear h2
   go_enter Try.func191, Try.ntmps191
   go_wp2
   go_ret
   exact ⟨b9 (by rw [decide_eq_false Q.out, decide_eq_false Q2.out]; rfl), by go_grown⟩
theorem ap3 (k : Int) (w : World) : Calls Try.prog 208 #[.int .i64 k] w fun e w' => e = .returned (.int .i64 (C2 k)) ∧ w = w' := by
 by_cases h1 : k = 1
 ·subst h1
  go_enter Try.func208, Try.ntmps208
  go_wp2_with fail
  go_ret
  exact ⟨s6 (by simp [C2]), rfl⟩
 by_cases h2 : k = 2
 ·subst h2
  go_enter Try.func208, Try.ntmps208
  go_wp2_with fail
  go_ret
  exact ⟨s6 (by simp [C2]), rfl⟩
 by_cases h3 : k = 3
 ·subst h3
  go_enter Try.func208, Try.ntmps208
  go_wp2_with fail
  go_ret
  exact ⟨s6 (by simp [C2]), rfl⟩
 have p1 : (k == 1) = false := by simp [h1]
 have p2 : (k == 2) = false := by simp [h2]
 have p3 : (k == 3) = false := by simp [h3]
 have H := show Hid _ from And.intro h1 (And.intro h2 h3)
 clear h1 h2 h3
 go_enter Try.func208, Try.ntmps208
 go_wp2_with fail
 refine (C0 k 4 10 _).mono ?_
 rintro x w1 ⟨rfl, rfl⟩
 by_cases h4 : 4 ≤ k ∧ k ≤ 10
 ·have p4 : (decide (4 ≤ k) && decide (k ≤ 10)) = true := by simp [h4]
  rw [p4]
  have H4 := show Hid _ from h4
  clear h4 p4
  go_wp2_with fail
  go_ret
  exact ⟨s6 (by have := H.out; have := H4.out; unfold C2; rw [if_neg (by omega), if_neg (by omega), if_pos (by omega)]), rfl⟩
 ·have p4 : (decide (4 ≤ k) && decide (k ≤ 10)) = false := by simp; omega
  rw [p4]
  have H4 := show Hid _ from h4
  clear h4 p4
  by_cases h5 : k = 11
  ·subst h5
   go_wp2_with fail
   go_ret
   exact ⟨s6 (by simp [C2]), rfl⟩
  ·have p5 : (k == 11) = false := by simp [h5]
   have H5 := show Hid _ from h5
   clear h5
   go_wp2_with fail
   go_ret
   exact ⟨s6 (by have := H.out; have := H4.out; have := H5.out; unfold C2; rw [if_neg (by omega), if_neg (by omega), if_neg (by omega), if_neg (by omega)]), rfl⟩
theorem U2 {nv na d c : Nat} {e : b7} (h1 : E1 nv na e = true) (h2 : S9 e = true) : A2 nv na (d + 1) c e = w7 nv na d (c + 1) e.kids e.kids.length := by
 unfold A2 w7
 rw [bf6 (bf5 _), l5, h1, h2, G0]
 simp
theorem P9 {nv na d c k : Nat} {ks : List b7} (hk : k < ks.length) (hs : A2 nv na d (c + m6 (ks.take k)) ks[k] = false) : w7 nv na d c ks ks.length = false := by
 unfold w7
 rw [bf6 (bf5 _)]
 exact as9 nv na hk hs
theorem J8 {nv na d c : Nat} {e : b7} (h1 : E1 nv na e = false) : A2 nv na (d + 1) c e = false := by
 unfold A2; rw [l5, h1]; rfl
theorem at1 {nv na d c : Nat} {e : b7} (h1 : S9 e = false) : A2 nv na (d + 1) c e = false := by
 unfold A2; rw [l5, h1]; simp
theorem U6 {nv na : Nat} {k n h : Int} (hh : h = G2 nv na k - 1) : (decide (0 ≤ n) && decide (n ≤ h)) = (decide (0 ≤ n) && decide (n < G2 nv na k)) := by
 congr 1; exact decide_eq_decide.2 (by omega)
theorem aM7 (a1 a2 : Option Addr) (nv c1 na c2 : Nat) (v3 : Value) (h1 : nv ≤ 9223372036854775807) (h2 : na ≤ 9223372036854775807) : ∀ (d : Nat) (deep : Int), deep + d = 6 → 1 ≤ deep → ∀ (e : b7) (φ : Nat → Prop) (v : Value) (c cb : Nat) (w : World), I4 w φ v e → ¬ φ cb → P5 w cb [.int .i64 c] → c ≤ 15 →
  Calls Try.prog 163 #[.agg #[.slice a1 nv c1, .slice a2 na c2, v3], v, .int .i64 deep, .pointer (some ⟨cb, 0, none⟩)] w fun x w' =>
   x = .returned (.bool (A2 nv na d c e)) ∧ (A2 nv na d c e = true → P5 w' cb [.int .i64 (c + 1 + B9 e : Nat)]) ∧ (∃ u, P5 w' cb [u]) ∧ v9 (fun b => ¬ b = cb) w w' := by
 intro d
 induction d with
 | zero =>
  intro deep hdp hd1 e φ v c cb w h hcb hblk hc
  obtain ⟨kv, rfl, hk⟩ := h
  have HF : Hid (A2 nv na 0 c e = false) := rfl
  obtain rfl : deep = 6 := by omega
  have hl := hblk.lt
  have x0 : w.cell? ⟨cb, 0, none⟩ = some (.int .i64 c) := (hblk.cell 0).trans rfl
  have f0 := hblk.free
  obtain ⟨W, hW, M⟩ : ∃ W, W = (((w.setCell ⟨cb, 0, none⟩ (.int .i64 ((c : Int) + 1))).alloc (.cells #[.slice a1 nv c1, .slice a2 na c2, v3] 26)).alloc (.cells #[.int .i64 e.kind, .int .i64 e.value, kv] 59)) ∧ A0 (fun _ => True) (fun b => ¬ b = cb) w W [.box cb [.int .i64 ((c : Int) + 1)]] :=
   ⟨_, rfl, (((A0.start fun _ _ => trivial).adopt (.box cb [.int .i64 c]) (fun _ ha => by cases ha) bf4 hblk (fun _ ha => by cases ha) (fun g hg hn => by cases hg; exact hn rfl)).set 0 rfl 0 (.int .i64 ((c : Int) + 1))).call (by go_grown)⟩
  have y0 := M.c 0 0 rfl rfl
  have z0 := fun X => t0 y0 X
  clear hk y0 hblk
  by_cases q : (15 : Int) < (c : Int) + 1
  ·have p : decide ((15 : Int) < (c : Int) + 1) = true := by simp; omega
   clear q
   go_enter Try.func163, Try.ntmps163
   go_wp2_with fail
   rw [← hW]
   clear hW
   refine B7 (by kernel_rfl) (by kernel_rfl) ?_
   repeat (any_goals (first | go_big_quiet_step (((fail))) | quiet_step (((fail)))))
   refine wpQuiet_nil ?_
   rintro _ ⟨X, rfl⟩
   replace M := M.call (C5 W X)
   go_wp2_with fail
   go_ret
   exact ⟨b9 (by rw [HF.out]), fun h => absurd (h.symm.trans HF.out) (by simp), ⟨_, M.blk 0 rfl⟩, M.kept⟩
  ·have p : decide ((15 : Int) < (c : Int) + 1) = false := by simp; omega
   clear q
   go_enter Try.func163, Try.ntmps163
   go_wp2_with fail
   rw [← hW]
   clear hW
   refine B7 (by kernel_rfl) (by kernel_rfl) ?_
   repeat (any_goals (first | go_big_quiet_step (((fail))) | quiet_step (((fail)))))
   refine wpQuiet_nil ?_
   rintro _ ⟨X, rfl⟩
   replace M := M.call (C5 W X)
   go_wp2_with fail
   go_ret
   exact ⟨b9 (by rw [HF.out]), fun h => absurd (h.symm.trans HF.out) (by simp), ⟨_, M.blk 0 rfl⟩, M.kept⟩
 | succ d ih =>
  intro deep hdp hd1 e φ v c cb w h hcb hblk hc
  obtain ⟨kv, rfl, hk⟩ := h
  obtain ⟨ak, ck, rfl, -, hn, -, -⟩ := hk.open
  have hl := hblk.lt
  have hd5 : deep ≤ 5 := by omega
  obtain ⟨φ', hφ'⟩ : ∃ φ' : Nat → Prop, φ' = fun b => φ b ∨ w.heap.size ≤ b := ⟨_, rfl⟩
  have x0 : w.cell? ⟨cb, 0, none⟩ = some (.int .i64 c) := (hblk.cell 0).trans rfl
  have f0 := hblk.free
  obtain ⟨W, hW, M⟩ : ∃ W, W = (((w.setCell ⟨cb, 0, none⟩ (.int .i64 ((c : Int) + 1))).alloc (.cells #[.slice a1 nv c1, .slice a2 na c2, v3] 26)).alloc (.cells #[.int .i64 e.kind, .int .i64 e.value, .slice ak e.kids.length ck] 59)) ∧
    A0 φ' (fun b => ¬ b = cb) w W [.box cb [.int .i64 ((c : Int) + 1)], .box w.heap.size [.slice a1 nv c1, .slice a2 na c2, v3], .box (w.heap.size + 1) [.int .i64 e.kind, .int .i64 e.value, .slice ak e.kids.length ck], .dat (fun w φ => s7 w φ (.slice ak e.kids.length ck) e.kids)] := by
   refine ⟨_, rfl, (((((A0.start (by rw [hφ']; exact fun _ h => .inr h)).adopt (.box cb [.int .i64 c]) (fun _ ha => by cases ha) bf4 hblk (fun _ ha => by cases ha) (fun g hg hn => by cases hg; exact hn rfl)).set 0 rfl 0 (.int .i64 ((c : Int) + 1))).box' _ _ (by simp)).box' _ _ (by simp)).dat (s7.nice _ _) (s7.nice _ _ _ _ _ _ ⟨by simp; omega, fun b hb hf => ⟨⟨by rw [hφ']; exact .inl hf, fun r hr he => ?_⟩, ?_⟩⟩ hk)⟩
   ·simp at hr
    rcases hr with rfl | rfl | rfl
    ·cases he; exact hcb hf
    ·cases he; omega
    ·cases he; omega
   ·have hbc : b ≠ cb := fun he => hcb (he ▸ hf)
    exact (((Below.refl w.heap.size (w.setCell ⟨cb, 0, none⟩ (.int .i64 ((c : Int) + 1)))).alloc (by simp) _ |>.alloc (by simp) _).block b (by simpa using hb)).trans (Below.heap_setCell _ _ _ _ hbc)
  clear hk hblk hφ'
  have y0 := M.c 0 0 rfl rfl
  have y1 := M.c 2 0 rfl rfl
  have y2 := M.c 2 2 rfl rfl
  have z0 := fun X => t0 y0 X
  have z1 := fun X => t0 y1 X
  have z2 := fun X => t0 y2 X
  have HA : Hid (∀ X, Calls Try.prog 208 #[.int .i64 e.kind] (W.ext X) fun x w'' => x = .returned (.int .i64 (C2 e.kind)) ∧ ∃ Y, w'' = W.ext Y) := fun X =>
   Calls.ext_of' ((ap3 e.kind _).mono fun x w' h => ⟨h.1, h.2 ▸ Below.refl _ _⟩)
  clear y0 y1 y2
  have p2 : decide ((5 : Int) < deep) = false := decide_eq_false (by omega)
  by_cases q1 : (15 : Int) < (c : Int) + 1
  ·have p1 : decide ((15 : Int) < (c : Int) + 1) = true := decide_eq_true q1
   have HF : Hid (A2 nv na (d + 1) c e = false) := by unfold Hid A2; rw [decide_eq_false (by omega), Bool.and_false]
   clear q1
   go_enter Try.func163, Try.ntmps163
   go_wp2_with fail
   rw [← hW]
   clear hW
   refine B7 (by kernel_rfl) (by kernel_rfl) ?_
   repeat (any_goals (first | go_big_quiet_step (((go_at_call 208; exact HA.out _))) | quiet_step (((go_at_call 208; exact HA.out _)))))
   refine wpQuiet_nil ?_
   rintro _ ⟨X, rfl⟩
   replace M := M.call (C5 W X)
   go_wp2_with fail
   go_ret
   exact ⟨b9 (by rw [HF.out]), fun h => absurd (h.symm.trans HF.out) (by simp), ⟨_, M.blk 0 rfl⟩, M.kept⟩
  have p1 : decide ((15 : Int) < (c : Int) + 1) = false := decide_eq_false q1
  by_cases q3 : (e.kids.length : Int) = C2 e.kind
  case neg =>
   have p3 : (C2 e.kind != (e.kids.length : Int)) = true := by simp; omega
   have HF : Hid (A2 nv na (d + 1) c e = false) := J8 (by unfold E1; rw [decide_eq_false q3]; rfl)
   clear q1 q3
   go_enter Try.func163, Try.ntmps163
   go_wp2_with fail
   rw [← hW]
   clear hW
   refine B7 (by kernel_rfl) (by kernel_rfl) ?_
   repeat (any_goals (first | go_big_quiet_step (((go_at_call 208; exact HA.out _))) | quiet_step (((go_at_call 208; exact HA.out _)))))
   refine wpQuiet_nil ?_
   rintro _ ⟨X, rfl⟩
   replace M := M.call (C5 W X)
   go_wp2_with fail
   go_ret
   exact ⟨b9 (by rw [HF.out]), fun h => absurd (h.symm.trans HF.out) (by simp), ⟨_, M.blk 0 rfl⟩, M.kept⟩
  have p3 : (C2 e.kind != (e.kids.length : Int)) = false := by simp; omega
  have HQ := show Hid _ from And.intro q1 q3
  clear q1 q3
  go_enter Try.func163, Try.ntmps163
  go_wp2_with fail
  rw [← hW]
  clear hW
  refine B7 (by kernel_rfl) (by kernel_rfl) ?_
  repeat (any_goals (first | go_big_quiet_step (((go_at_call 208; exact HA.out _))) | quiet_step (((go_at_call 208; exact HA.out _)))))
  refine wpQuiet_nil ?_
  rintro _ ⟨X, rfl⟩
  replace M := M.call (C5 W X)
  generalize W.ext X = W1 at *
  clear z0 z1 z2 HA p1 p2 p3 f0 x0
  have y0 := M.c 1 0 rfl rfl
  have y1 := M.c 1 1 rfl rfl
  have y2 := M.c 2 0 rfl rfl
  have y3 := M.c 2 1 rfl rfl
  have y4 := M.c 2 2 rfl rfl
  have HM := show Hid _ from M
  clear M
  by_cases k1 : e.kind = 1
  ·have qq1 : (e.kind == 1) = true := by simp [k1]
   have qq2 : (e.kind == 3) = false := by simp [k1]
   have HRD : Hid (S9 e = true) := by unfold Hid S9; simp [k1]
   have hhi : (255 : Int) = G2 nv na e.kind - 1 := by rw [k1]; simp [G2]
   clear k1
   have HNB := show Hid (E1 nv na e = (decide (0 ≤ e.value) && decide (e.value ≤ 255))) from by
    unfold Hid E1; rw [decide_eq_true HQ.out.2, U6 hhi]; rfl
   clear hhi
   go_wp2_with fail
   refine (C0 e.value 0 _ _).mono ?_
   rintro x w1 ⟨rfl, rfl⟩
   have HNB2 := show Hid (E1 nv na e = (decide (0 ≤ e.value) && decide (e.value ≤ 255))) from HNB.out
   clear HNB
   obtain ⟨qn, hqn⟩ : ∃ qn, qn = (decide (0 ≤ e.value) && decide (e.value ≤ 255)) := ⟨_, rfl⟩
   rw [← hqn]
   have HN := show Hid (E1 nv na e = qn) from HNB2.out.trans hqn.symm
   clear hqn HNB2
   cases qn
   ·have HF : Hid (A2 nv na (d + 1) c e = false) := J8 HN.out
    have M := HM.out
    clear HM
    go_wp2_with fail
    go_ret
    exact ⟨b9 (by rw [HF.out]), fun h => absurd (h.symm.trans HF.out) (by simp), ⟨_, M.blk 0 rfl⟩, M.kept⟩
   have HSC : Hid (A2 nv na (d + 1) c e = w7 nv na d (c + 1) e.kids e.kids.length) := U2 HN.out HRD.out
   go_wp2_with fail
   clear y0 y1 y2 y3 y4
   have HST : Hid (w7 nv na d (c + 1) e.kids 0 = true ∧ A0 φ' (fun b => ¬ b = cb) w W1 [.box cb [.int .i64 (c + 1 + m6 (e.kids.take 0) : Nat)], .box w.heap.size [.slice a1 nv c1, .slice a2 na c2, v3], .box (w.heap.size + 1) [.int .i64 e.kind, .int .i64 e.value, .slice ak e.kids.length ck], .dat (fun w φ => s7 w φ (.slice ak e.kids.length ck) e.kids)]) := by
    refine ⟨?_, ?_⟩
    ·have := HQ.out.1
     simp [w7, m6]; omega
    ·rw [show ((c + 1 + m6 (e.kids.take 0) : Nat) : Int) = (c : Int) + 1 by simp [m6]]
     exact HM.out
   go_loopw [71] (fun i wr => ∃ k : Nat, k ≤ e.kids.length ∧ i = .int .i64 k ∧ w7 nv na d (c + 1) e.kids k = true ∧ A0 φ' (fun b => ¬ b = cb) w wr [.box cb [.int .i64 (c + 1 + m6 (e.kids.take k) : Nat)], .box w.heap.size [.slice a1 nv c1, .slice a2 na c2, v3], .box (w.heap.size + 1) [.int .i64 e.kind, .int .i64 e.value, .slice ak e.kids.length ck], .dat (fun w φ => s7 w φ (.slice ak e.kids.length ck) e.kids)]) (fun i _ => e.kids.length - (intOf i).toNat)
   case atStart => exact ⟨0, bg3 _, rfl, HST.out.1, HST.out.2⟩
   case round =>
    clear HM
    obtain ⟨k, hk, rfl, hpre, M⟩ := hrel
    have HPRE := show Hid _ from hpre
    have hle : c + 1 + m6 (e.kids.take k) ≤ 15 := by unfold w7 at hpre; simp at hpre; exact hpre.2
    clear hpre
    by_cases hlt : k < e.kids.length
    ·have hncb : ¬ Fr φ' [.box cb [.int .i64 (c + 1 + m6 (e.kids.take k) : Nat)], .box w.heap.size [.slice a1 nv c1, .slice a2 na c2, v3], .box (w.heap.size + 1) [.int .i64 e.kind, .int .i64 e.value, .slice ak e.kids.length ck], .dat (fun w φ => s7 w φ (.slice ak e.kids.length ck) e.kids)] cb := fun h => h.2 _ bg2 rfl
     obtain ⟨a', c', he, -, -, -, hcell⟩ := (M.d 3 rfl).open
     cases he
     obtain ⟨b, off, kv, hbo, hbk, hf, g0, g1, g2, hkk⟩ := hcell k hlt
     cases hbo
     obtain ⟨ka, kc, rfl, -, -, -, -⟩ := hkk.open
     have bz : Below wr.heap.size wr (wr.alloc (.cells #[.int .i64 e.kids[k].kind, .int .i64 e.kids[k].value, .slice ka e.kids[k].kids.length kc] 59)) := by go_grown
     have HE := show Hid _ from s7.nice _ _ _ _ _ _ (I8.below bz) hkk
     have HNCB := show Hid _ from hncb
     have x0 := M.c 1 0 rfl rfl
     have x1 := M.c 1 1 rfl rfl
     have x2 := M.c 1 2 rfl rfl
     have s1 : w.heap.size < wr.heap.size := M.lt (r := .box w.heap.size [.slice a1 nv c1, .slice a2 na c2, v3]) (bg5 _ bg2) rfl
     have HM := show Hid _ from M.box [.int .i64 e.kids[k].kind, .int .i64 e.kids[k].value, .slice ka e.kids[k].kids.length kc] 59
     have HP := show Hid _ from O2 nv na (d := d) (c := c + 1) hlt
     have HX := show Hid (A2 nv na d (c + 1 + m6 (e.kids.take k)) e.kids[k] = false → A2 nv na (d + 1) c e = false) from fun h => HSC.out.trans (P9 hlt h)
     have HT := show Hid _ from H2 hlt
     clear hcell hncb bz hkk M
     go_wp2_with fail
     refine (ih (deep + 1) (by omega) (by omega) e.kids[k] _ _ (c + 1 + m6 (e.kids.take k)) cb _ ⟨_, rfl, HE.out⟩ HNCB.out (HM.out.blk 0 rfl) hle).mono ?_
     rintro x w2 ⟨rfl, r1, ⟨u, r2⟩, kp⟩
     obtain ⟨q, hq⟩ : ∃ q, q = A2 nv na d (c + 1 + m6 (e.kids.take k)) e.kids[k] := ⟨_, rfl⟩
     rw [← hq] at r1 ⊢
     have HQ2 := show Hid _ from hq
     clear hq x0 x1 x2 g0 g1 g2
     cases q
     ·have M2 := HM.out.callB 0 rfl kp r2
      have HF := show Hid _ from HX.out HQ2.out.symm
      clear r1 r2 kp
      go_wp2_with fail
      go_ret
      exact ⟨b9 (by rw [HF.out]), fun h => absurd (h.symm.trans HF.out) (by simp), ⟨_, M2.blk 0 rfl⟩, M2.kept⟩
     ·have M2 := (HM.out.callB 0 rfl kp (r1 rfl)).take 4
      have HM2 := show Hid _ from M2
      clear r1 r2 kp M2
      go_wp2_with fail
      refine ⟨⟨k + 1, by omega, by go_num, by rw [HP.out, HPRE.out, ← HQ2.out]; rfl, ?_⟩, by simp [intOf]; omega⟩
      rw [HT.out, show c + 1 + (m6 (e.kids.take k) + (1 + B9 e.kids[k])) = c + 1 + m6 (e.kids.take k) + 1 + B9 e.kids[k] by omega]
      exact HM2.out
    ·have hkn : k = e.kids.length := by omega
     subst hkn
     have HM := show Hid _ from M
     have HS : Hid (A2 nv na (d + 1) c e = true) := HSC.out.trans HPRE.out
     clear M
     go_wp2_with fail
     go_ret
     refine ⟨b9 (by rw [HS.out]), fun _ => ?_, ⟨_, HM.out.blk 0 rfl⟩, HM.out.kept⟩
     have := HM.out.blk 0 rfl
     rw [bf6 (bf5 _)] at this
     rw [G0]
     exact this
  have k1' : (e.kind == 1) = false := by simp [k1]
  by_cases k2 : e.kind = 2
  ·have qq1 : (e.kind == 2) = true := by simp [k2]
   have qq2 : (e.kind == 3) = false := by simp [k2]
   have HRD : Hid (S9 e = true) := by unfold Hid S9; simp [k2]
   have hhi : (nv : Int) - 1 = G2 nv na e.kind - 1 := by rw [k2]; simp [G2]
   clear k1 k2
   have HNB := show Hid (E1 nv na e = (decide (0 ≤ e.value) && decide (e.value ≤ (nv : Int) - 1))) from by
    unfold Hid E1; rw [decide_eq_true HQ.out.2, U6 hhi]; rfl
   clear hhi
   go_wp2_with fail
   refine (C0 e.value 0 _ _).mono ?_
   rintro x w1 ⟨rfl, rfl⟩
   have HNB2 := show Hid (E1 nv na e = (decide (0 ≤ e.value) && decide (e.value ≤ (nv : Int) - 1))) from HNB.out
   clear HNB
   obtain ⟨qn, hqn⟩ : ∃ qn, qn = (decide (0 ≤ e.value) && decide (e.value ≤ (nv : Int) - 1)) := ⟨_, rfl⟩
   rw [← hqn]
   have HN := show Hid (E1 nv na e = qn) from HNB2.out.trans hqn.symm
   clear hqn HNB2
   cases qn
   ·have HF : Hid (A2 nv na (d + 1) c e = false) := J8 HN.out
    have M := HM.out
    clear HM
    go_wp2_with fail
    go_ret
    exact ⟨b9 (by rw [HF.out]), fun h => absurd (h.symm.trans HF.out) (by simp), ⟨_, M.blk 0 rfl⟩, M.kept⟩
   have HSC : Hid (A2 nv na (d + 1) c e = w7 nv na d (c + 1) e.kids e.kids.length) := U2 HN.out HRD.out
   go_wp2_with fail
   clear y0 y1 y2 y3 y4
   have HST : Hid (w7 nv na d (c + 1) e.kids 0 = true ∧ A0 φ' (fun b => ¬ b = cb) w W1 [.box cb [.int .i64 (c + 1 + m6 (e.kids.take 0) : Nat)], .box w.heap.size [.slice a1 nv c1, .slice a2 na c2, v3], .box (w.heap.size + 1) [.int .i64 e.kind, .int .i64 e.value, .slice ak e.kids.length ck], .dat (fun w φ => s7 w φ (.slice ak e.kids.length ck) e.kids)]) := by
    refine ⟨?_, ?_⟩
    ·have := HQ.out.1
     simp [w7, m6]; omega
    ·rw [show ((c + 1 + m6 (e.kids.take 0) : Nat) : Int) = (c : Int) + 1 by simp [m6]]
     exact HM.out
   go_loopw [71] (fun i wr => ∃ k : Nat, k ≤ e.kids.length ∧ i = .int .i64 k ∧ w7 nv na d (c + 1) e.kids k = true ∧ A0 φ' (fun b => ¬ b = cb) w wr [.box cb [.int .i64 (c + 1 + m6 (e.kids.take k) : Nat)], .box w.heap.size [.slice a1 nv c1, .slice a2 na c2, v3], .box (w.heap.size + 1) [.int .i64 e.kind, .int .i64 e.value, .slice ak e.kids.length ck], .dat (fun w φ => s7 w φ (.slice ak e.kids.length ck) e.kids)]) (fun i _ => e.kids.length - (intOf i).toNat)
   case atStart => exact ⟨0, bg3 _, rfl, HST.out.1, HST.out.2⟩
   case round =>
    clear HM
    obtain ⟨k, hk, rfl, hpre, M⟩ := hrel
    have HPRE := show Hid _ from hpre
    have hle : c + 1 + m6 (e.kids.take k) ≤ 15 := by unfold w7 at hpre; simp at hpre; exact hpre.2
    clear hpre
    by_cases hlt : k < e.kids.length
    ·have hncb : ¬ Fr φ' [.box cb [.int .i64 (c + 1 + m6 (e.kids.take k) : Nat)], .box w.heap.size [.slice a1 nv c1, .slice a2 na c2, v3], .box (w.heap.size + 1) [.int .i64 e.kind, .int .i64 e.value, .slice ak e.kids.length ck], .dat (fun w φ => s7 w φ (.slice ak e.kids.length ck) e.kids)] cb := fun h => h.2 _ bg2 rfl
     obtain ⟨a', c', he, -, -, -, hcell⟩ := (M.d 3 rfl).open
     cases he
     obtain ⟨b, off, kv, hbo, hbk, hf, g0, g1, g2, hkk⟩ := hcell k hlt
     cases hbo
     obtain ⟨ka, kc, rfl, -, -, -, -⟩ := hkk.open
     have bz : Below wr.heap.size wr (wr.alloc (.cells #[.int .i64 e.kids[k].kind, .int .i64 e.kids[k].value, .slice ka e.kids[k].kids.length kc] 59)) := by go_grown
     have HE := show Hid _ from s7.nice _ _ _ _ _ _ (I8.below bz) hkk
     have HNCB := show Hid _ from hncb
     have x0 := M.c 1 0 rfl rfl
     have x1 := M.c 1 1 rfl rfl
     have x2 := M.c 1 2 rfl rfl
     have s1 : w.heap.size < wr.heap.size := M.lt (r := .box w.heap.size [.slice a1 nv c1, .slice a2 na c2, v3]) (bg5 _ bg2) rfl
     have HM := show Hid _ from M.box [.int .i64 e.kids[k].kind, .int .i64 e.kids[k].value, .slice ka e.kids[k].kids.length kc] 59
     have HP := show Hid _ from O2 nv na (d := d) (c := c + 1) hlt
     have HX := show Hid (A2 nv na d (c + 1 + m6 (e.kids.take k)) e.kids[k] = false → A2 nv na (d + 1) c e = false) from fun h => HSC.out.trans (P9 hlt h)
     have HT := show Hid _ from H2 hlt
     clear hcell hncb bz hkk M
     go_wp2_with fail
     refine (ih (deep + 1) (by omega) (by omega) e.kids[k] _ _ (c + 1 + m6 (e.kids.take k)) cb _ ⟨_, rfl, HE.out⟩ HNCB.out (HM.out.blk 0 rfl) hle).mono ?_
     rintro x w2 ⟨rfl, r1, ⟨u, r2⟩, kp⟩
     obtain ⟨q, hq⟩ : ∃ q, q = A2 nv na d (c + 1 + m6 (e.kids.take k)) e.kids[k] := ⟨_, rfl⟩
     rw [← hq] at r1 ⊢
     have HQ2 := show Hid _ from hq
     clear hq x0 x1 x2 g0 g1 g2
     cases q
     ·have M2 := HM.out.callB 0 rfl kp r2
      have HF := show Hid _ from HX.out HQ2.out.symm
      clear r1 r2 kp
      go_wp2_with fail
      go_ret
      exact ⟨b9 (by rw [HF.out]), fun h => absurd (h.symm.trans HF.out) (by simp), ⟨_, M2.blk 0 rfl⟩, M2.kept⟩
     ·have M2 := (HM.out.callB 0 rfl kp (r1 rfl)).take 4
      have HM2 := show Hid _ from M2
      clear r1 r2 kp M2
      go_wp2_with fail
      refine ⟨⟨k + 1, by omega, by go_num, by rw [HP.out, HPRE.out, ← HQ2.out]; rfl, ?_⟩, by simp [intOf]; omega⟩
      rw [HT.out, show c + 1 + (m6 (e.kids.take k) + (1 + B9 e.kids[k])) = c + 1 + m6 (e.kids.take k) + 1 + B9 e.kids[k] by omega]
      exact HM2.out
    ·have hkn : k = e.kids.length := by omega
     subst hkn
     have HM := show Hid _ from M
     have HS : Hid (A2 nv na (d + 1) c e = true) := HSC.out.trans HPRE.out
     clear M
     go_wp2_with fail
     go_ret
     refine ⟨b9 (by rw [HS.out]), fun _ => ?_, ⟨_, HM.out.blk 0 rfl⟩, HM.out.kept⟩
     have := HM.out.blk 0 rfl
     rw [bf6 (bf5 _)] at this
     rw [G0]
     exact this
  have k2' : (e.kind == 2) = false := by simp [k2]
  by_cases k3 : e.kind = 3
  ·have qq1 : (e.kind == 3) = true := by simp [k3]
   have qq2 := k2'
   have HRD : Hid (e.kind = 3) := k3
   have hhi : (na : Int) - 1 = G2 nv na e.kind - 1 := by rw [k3]; simp [G2]
   clear k1 k2 k3
   have HNB := show Hid (E1 nv na e = (decide (0 ≤ e.value) && decide (e.value ≤ (na : Int) - 1))) from by
    unfold Hid E1; rw [decide_eq_true HQ.out.2, U6 hhi]; rfl
   clear hhi
   go_wp2_with fail
   refine (C0 e.value 0 _ _).mono ?_
   rintro x w1 ⟨rfl, rfl⟩
   have HNB2 := show Hid (E1 nv na e = (decide (0 ≤ e.value) && decide (e.value ≤ (na : Int) - 1))) from HNB.out
   clear HNB
   obtain ⟨qn, hqn⟩ : ∃ qn, qn = (decide (0 ≤ e.value) && decide (e.value ≤ (na : Int) - 1)) := ⟨_, rfl⟩
   rw [← hqn]
   have HN := show Hid (E1 nv na e = qn) from HNB2.out.trans hqn.symm
   clear hqn HNB2
   cases qn
   ·have HF : Hid (A2 nv na (d + 1) c e = false) := J8 HN.out
    have M := HM.out
    clear HM
    go_wp2_with fail
    go_ret
    exact ⟨b9 (by rw [HF.out]), fun h => absurd (h.symm.trans HF.out) (by simp), ⟨_, M.blk 0 rfl⟩, M.kept⟩
   have hl1 : e.kids.length = 1 := by have := HQ.out.2; rw [HRD.out] at this; simp [C2] at this; omega
   have hpos : 0 < (e.kids.length : Int) := by omega
   obtain ⟨a', c', he, -, -, -, hcell⟩ := (HM.out.d 3 rfl).open
   have e1 : ak = a' := by cases he; rfl
   have e2 : ck = c' := by cases he; rfl
   subst e1 e2
   obtain ⟨b, off, kv, rfl, hbk, hf, g0, g1, g2, hkk⟩ := hcell 0 (by omega)
   simp only [Nat.zero_mul, bi2] at g0 g1 g2
   have HR := show Hid _ from aq8 HRD.out (by omega)
   clear hcell hkk
   go_wp2_with fail
   refine (ad6 _ _ _ _).mono ?_
   rintro x w2 ⟨rfl, b2⟩
   replace HM := show Hid _ from HM.out.call b2
   obtain ⟨qr, hqr⟩ : ∃ qr, qr = (decide ((e.kids[0]'(by omega)).kind = 1) || decide ((e.kids[0]'(by omega)).kind = 2)) := ⟨_, rfl⟩
   rw [← hqr]
   have HRR := show Hid (S9 e = qr) from HR.out.trans hqr.symm
   clear hqr b2 HR g0 g1 g2
   cases qr
   ·have HF : Hid (A2 nv na (d + 1) c e = false) := at1 HRR.out
    have M := HM.out
    clear HM
    go_wp2_with fail
    go_ret
    exact ⟨b9 (by rw [HF.out]), fun h => absurd (h.symm.trans HF.out) (by simp), ⟨_, M.blk 0 rfl⟩, M.kept⟩
   clear y0 y1 y2 y3 y4
   have y4 := HM.out.c 2 2 rfl rfl
   have HSC : Hid (A2 nv na (d + 1) c e = w7 nv na d (c + 1) e.kids e.kids.length) := U2 HN.out HRR.out
   go_wp2_with fail
   clear y4
   have HST : Hid (w7 nv na d (c + 1) e.kids 0 = true ∧ A0 φ' (fun b => ¬ b = cb) w w2 [.box cb [.int .i64 (c + 1 + m6 (e.kids.take 0) : Nat)], .box w.heap.size [.slice a1 nv c1, .slice a2 na c2, v3], .box (w.heap.size + 1) [.int .i64 e.kind, .int .i64 e.value, .slice (some ⟨b, off, none⟩) e.kids.length ck], .dat (fun w φ => s7 w φ (.slice (some ⟨b, off, none⟩) e.kids.length ck) e.kids)]) := by
    refine ⟨?_, ?_⟩
    ·have := HQ.out.1
     simp [w7, m6]; omega
    ·rw [show ((c + 1 + m6 (e.kids.take 0) : Nat) : Int) = (c : Int) + 1 by simp [m6]]
     exact HM.out
   go_loopw [71] (fun i wr => ∃ k : Nat, k ≤ e.kids.length ∧ i = .int .i64 k ∧ w7 nv na d (c + 1) e.kids k = true ∧ A0 φ' (fun b => ¬ b = cb) w wr [.box cb [.int .i64 (c + 1 + m6 (e.kids.take k) : Nat)], .box w.heap.size [.slice a1 nv c1, .slice a2 na c2, v3], .box (w.heap.size + 1) [.int .i64 e.kind, .int .i64 e.value, .slice (some ⟨b, off, none⟩) e.kids.length ck], .dat (fun w φ => s7 w φ (.slice (some ⟨b, off, none⟩) e.kids.length ck) e.kids)]) (fun i _ => e.kids.length - (intOf i).toNat)
   case atStart => exact ⟨0, bg3 _, rfl, HST.out.1, HST.out.2⟩
   case round =>
    clear HM
    obtain ⟨k, hk, rfl, hpre, M⟩ := hrel
    have HPRE := show Hid _ from hpre
    have hle : c + 1 + m6 (e.kids.take k) ≤ 15 := by unfold w7 at hpre; simp at hpre; exact hpre.2
    clear hpre
    by_cases hlt : k < e.kids.length
    ·have hncb : ¬ Fr φ' [.box cb [.int .i64 (c + 1 + m6 (e.kids.take k) : Nat)], .box w.heap.size [.slice a1 nv c1, .slice a2 na c2, v3], .box (w.heap.size + 1) [.int .i64 e.kind, .int .i64 e.value, .slice (some ⟨b, off, none⟩) e.kids.length ck], .dat (fun w φ => s7 w φ (.slice (some ⟨b, off, none⟩) e.kids.length ck) e.kids)] cb := fun h => h.2 _ bg2 rfl
     obtain ⟨a', c', he, -, -, -, hcell⟩ := (M.d 3 rfl).open
     cases he
     obtain ⟨b, off, kv, hbo, hbk, hf, g0, g1, g2, hkk⟩ := hcell k hlt
     cases hbo
     obtain ⟨ka, kc, rfl, -, -, -, -⟩ := hkk.open
     have bz : Below wr.heap.size wr (wr.alloc (.cells #[.int .i64 e.kids[k].kind, .int .i64 e.kids[k].value, .slice ka e.kids[k].kids.length kc] 59)) := by go_grown
     have HE := show Hid _ from s7.nice _ _ _ _ _ _ (I8.below bz) hkk
     have HNCB := show Hid _ from hncb
     have x0 := M.c 1 0 rfl rfl
     have x1 := M.c 1 1 rfl rfl
     have x2 := M.c 1 2 rfl rfl
     have s1 : w.heap.size < wr.heap.size := M.lt (r := .box w.heap.size [.slice a1 nv c1, .slice a2 na c2, v3]) (bg5 _ bg2) rfl
     have HM := show Hid _ from M.box [.int .i64 e.kids[k].kind, .int .i64 e.kids[k].value, .slice ka e.kids[k].kids.length kc] 59
     have HP := show Hid _ from O2 nv na (d := d) (c := c + 1) hlt
     have HX := show Hid (A2 nv na d (c + 1 + m6 (e.kids.take k)) e.kids[k] = false → A2 nv na (d + 1) c e = false) from fun h => HSC.out.trans (P9 hlt h)
     have HT := show Hid _ from H2 hlt
     clear hcell hncb bz hkk M
     go_wp2_with fail
     refine (ih (deep + 1) (by omega) (by omega) e.kids[k] _ _ (c + 1 + m6 (e.kids.take k)) cb _ ⟨_, rfl, HE.out⟩ HNCB.out (HM.out.blk 0 rfl) hle).mono ?_
     rintro x w2 ⟨rfl, r1, ⟨u, r2⟩, kp⟩
     obtain ⟨q, hq⟩ : ∃ q, q = A2 nv na d (c + 1 + m6 (e.kids.take k)) e.kids[k] := ⟨_, rfl⟩
     rw [← hq] at r1 ⊢
     have HQ2 := show Hid _ from hq
     clear hq x0 x1 x2 g0 g1 g2
     cases q
     ·have M2 := HM.out.callB 0 rfl kp r2
      have HF := show Hid _ from HX.out HQ2.out.symm
      clear r1 r2 kp
      go_wp2_with fail
      go_ret
      exact ⟨b9 (by rw [HF.out]), fun h => absurd (h.symm.trans HF.out) (by simp), ⟨_, M2.blk 0 rfl⟩, M2.kept⟩
     ·have M2 := (HM.out.callB 0 rfl kp (r1 rfl)).take 4
      have HM2 := show Hid _ from M2
      clear r1 r2 kp M2
      go_wp2_with fail
      refine ⟨⟨k + 1, by omega, by go_num, by rw [HP.out, HPRE.out, ← HQ2.out]; rfl, ?_⟩, by simp [intOf]; omega⟩
      rw [HT.out, show c + 1 + (m6 (e.kids.take k) + (1 + B9 e.kids[k])) = c + 1 + m6 (e.kids.take k) + 1 + B9 e.kids[k] by omega]
      exact HM2.out
    ·have hkn : k = e.kids.length := by omega
     subst hkn
     have HM := show Hid _ from M
     have HS : Hid (A2 nv na (d + 1) c e = true) := HSC.out.trans HPRE.out
     clear M
     go_wp2_with fail
     go_ret
     refine ⟨b9 (by rw [HS.out]), fun _ => ?_, ⟨_, HM.out.blk 0 rfl⟩, HM.out.kept⟩
     have := HM.out.blk 0 rfl
     rw [bf6 (bf5 _)] at this
     rw [G0]
     exact this
  have qq1 : (e.kind == 3) = false := by simp [k3]
  have qq2 := qq1
  have HRD : Hid (S9 e = true) := by unfold Hid S9; simp [k3]
  have hhi : (0 : Int) = G2 nv na e.kind - 1 := by unfold G2; rw [if_neg k1, if_neg k2, if_neg k3]; rfl
  clear k1 k2 k3
  have HNB := show Hid (E1 nv na e = (decide (0 ≤ e.value) && decide (e.value ≤ 0))) from by
   unfold Hid E1; rw [decide_eq_true HQ.out.2, U6 hhi]; rfl
  clear hhi
  go_wp2_with fail
  refine (C0 e.value 0 _ _).mono ?_
  rintro x w1 ⟨rfl, rfl⟩
  have HNB2 := show Hid (E1 nv na e = (decide (0 ≤ e.value) && decide (e.value ≤ 0))) from HNB.out
  clear HNB
  obtain ⟨qn, hqn⟩ : ∃ qn, qn = (decide (0 ≤ e.value) && decide (e.value ≤ 0)) := ⟨_, rfl⟩
  rw [← hqn]
  have HN := show Hid (E1 nv na e = qn) from HNB2.out.trans hqn.symm
  clear hqn HNB2
  cases qn
  ·have HF : Hid (A2 nv na (d + 1) c e = false) := J8 HN.out
   have M := HM.out
   clear HM
   go_wp2_with fail
   go_ret
   exact ⟨b9 (by rw [HF.out]), fun h => absurd (h.symm.trans HF.out) (by simp), ⟨_, M.blk 0 rfl⟩, M.kept⟩
  have HSC : Hid (A2 nv na (d + 1) c e = w7 nv na d (c + 1) e.kids e.kids.length) := U2 HN.out HRD.out
  go_wp2_with fail
  clear y0 y1 y2 y3 y4
  have HST : Hid (w7 nv na d (c + 1) e.kids 0 = true ∧ A0 φ' (fun b => ¬ b = cb) w W1 [.box cb [.int .i64 (c + 1 + m6 (e.kids.take 0) : Nat)], .box w.heap.size [.slice a1 nv c1, .slice a2 na c2, v3], .box (w.heap.size + 1) [.int .i64 e.kind, .int .i64 e.value, .slice ak e.kids.length ck], .dat (fun w φ => s7 w φ (.slice ak e.kids.length ck) e.kids)]) := by
   refine ⟨?_, ?_⟩
   ·have := HQ.out.1
    simp [w7, m6]; omega
   ·rw [show ((c + 1 + m6 (e.kids.take 0) : Nat) : Int) = (c : Int) + 1 by simp [m6]]
    exact HM.out
  go_loopw [71] (fun i wr => ∃ k : Nat, k ≤ e.kids.length ∧ i = .int .i64 k ∧ w7 nv na d (c + 1) e.kids k = true ∧ A0 φ' (fun b => ¬ b = cb) w wr [.box cb [.int .i64 (c + 1 + m6 (e.kids.take k) : Nat)], .box w.heap.size [.slice a1 nv c1, .slice a2 na c2, v3], .box (w.heap.size + 1) [.int .i64 e.kind, .int .i64 e.value, .slice ak e.kids.length ck], .dat (fun w φ => s7 w φ (.slice ak e.kids.length ck) e.kids)]) (fun i _ => e.kids.length - (intOf i).toNat)
  case atStart => exact ⟨0, bg3 _, rfl, HST.out.1, HST.out.2⟩
  case round =>
   clear HM
   obtain ⟨k, hk, rfl, hpre, M⟩ := hrel
   have HPRE := show Hid _ from hpre
   have hle : c + 1 + m6 (e.kids.take k) ≤ 15 := by unfold w7 at hpre; simp at hpre; exact hpre.2
   clear hpre
   by_cases hlt : k < e.kids.length
   ·have hncb : ¬ Fr φ' [.box cb [.int .i64 (c + 1 + m6 (e.kids.take k) : Nat)], .box w.heap.size [.slice a1 nv c1, .slice a2 na c2, v3], .box (w.heap.size + 1) [.int .i64 e.kind, .int .i64 e.value, .slice ak e.kids.length ck], .dat (fun w φ => s7 w φ (.slice ak e.kids.length ck) e.kids)] cb := fun h => h.2 _ bg2 rfl
    obtain ⟨a', c', he, -, -, -, hcell⟩ := (M.d 3 rfl).open
    cases he
    obtain ⟨b, off, kv, hbo, hbk, hf, g0, g1, g2, hkk⟩ := hcell k hlt
    cases hbo
    obtain ⟨ka, kc, rfl, -, -, -, -⟩ := hkk.open
    have bz : Below wr.heap.size wr (wr.alloc (.cells #[.int .i64 e.kids[k].kind, .int .i64 e.kids[k].value, .slice ka e.kids[k].kids.length kc] 59)) := by go_grown
    have HE := show Hid _ from s7.nice _ _ _ _ _ _ (I8.below bz) hkk
    have HNCB := show Hid _ from hncb
    have x0 := M.c 1 0 rfl rfl
    have x1 := M.c 1 1 rfl rfl
    have x2 := M.c 1 2 rfl rfl
    have s1 : w.heap.size < wr.heap.size := M.lt (r := .box w.heap.size [.slice a1 nv c1, .slice a2 na c2, v3]) (bg5 _ bg2) rfl
    have HM := show Hid _ from M.box [.int .i64 e.kids[k].kind, .int .i64 e.kids[k].value, .slice ka e.kids[k].kids.length kc] 59
    have HP := show Hid _ from O2 nv na (d := d) (c := c + 1) hlt
    have HX := show Hid (A2 nv na d (c + 1 + m6 (e.kids.take k)) e.kids[k] = false → A2 nv na (d + 1) c e = false) from fun h => HSC.out.trans (P9 hlt h)
    have HT := show Hid _ from H2 hlt
    clear hcell hncb bz hkk M
    go_wp2_with fail
    refine (ih (deep + 1) (by omega) (by omega) e.kids[k] _ _ (c + 1 + m6 (e.kids.take k)) cb _ ⟨_, rfl, HE.out⟩ HNCB.out (HM.out.blk 0 rfl) hle).mono ?_
    rintro x w2 ⟨rfl, r1, ⟨u, r2⟩, kp⟩
    obtain ⟨q, hq⟩ : ∃ q, q = A2 nv na d (c + 1 + m6 (e.kids.take k)) e.kids[k] := ⟨_, rfl⟩
    rw [← hq] at r1 ⊢
    have HQ2 := show Hid _ from hq
    clear hq x0 x1 x2 g0 g1 g2
    cases q
    ·have M2 := HM.out.callB 0 rfl kp r2
     have HF := show Hid _ from HX.out HQ2.out.symm
     clear r1 r2 kp
     go_wp2_with fail
     go_ret
     exact ⟨b9 (by rw [HF.out]), fun h => absurd (h.symm.trans HF.out) (by simp), ⟨_, M2.blk 0 rfl⟩, M2.kept⟩
    ·have M2 := (HM.out.callB 0 rfl kp (r1 rfl)).take 4
     have HM2 := show Hid _ from M2
     clear r1 r2 kp M2
     go_wp2_with fail
     refine ⟨⟨k + 1, by omega, by go_num, by rw [HP.out, HPRE.out, ← HQ2.out]; rfl, ?_⟩, by simp [intOf]; omega⟩
     rw [HT.out, show c + 1 + (m6 (e.kids.take k) + (1 + B9 e.kids[k])) = c + 1 + m6 (e.kids.take k) + 1 + B9 e.kids[k] by omega]
     exact HM2.out
   ·have hkn : k = e.kids.length := by omega
    subst hkn
    have HM := show Hid _ from M
    have HS : Hid (A2 nv na (d + 1) c e = true) := HSC.out.trans HPRE.out
    clear M
    go_wp2_with fail
    go_ret
    refine ⟨b9 (by rw [HS.out]), fun _ => ?_, ⟨_, HM.out.blk 0 rfl⟩, HM.out.kept⟩
    have := HM.out.blk 0 rfl
    rw [bf6 (bf5 _)] at this
    rw [G0]
    exact this
theorem aE5 (nv na : Nat) (e : b7) : A2 nv na 5 0 e = l8 nv na e := by
 have h : (0 + 1 + B9 e ≤ 15) = (1 + B9 e ≤ 15) := by rw [bi4]
 unfold A2 l8
 simp only [h]
theorem aM8 (a1 a2 : Option Addr) (nv c1 na c2 : Nat) (v3 : Value) (h1 : nv ≤ 9223372036854775807) (h2 : na ≤ 9223372036854775807) (e : b7) (φ : Nat → Prop) (v : Value) (w : World) (h : I4 w φ v e) :
  Calls Try.prog 92 #[.agg #[.slice a1 nv c1, .slice a2 na c2, v3], v] w fun x w' => x = .returned (.bool (l8 nv na e)) ∧ Below w.heap.size w w' := by
 obtain ⟨kv, rfl, hk⟩ := h
 obtain ⟨W, hW, M⟩ : ∃ W, W = ((w.alloc (.cells #[.slice a1 nv c1, .slice a2 na c2, v3] 26)).alloc (.cells #[.int .i64 e.kind, .int .i64 e.value, kv] 59)).alloc (.cells #[.int .i64 0] 3) ∧ A0 (fun _ => True) (fun _ => True) w W [.box w.heap.size [.slice a1 nv c1, .slice a2 na c2, v3], .box (w.heap.size + 1) [.int .i64 e.kind, .int .i64 e.value, kv], .box (w.heap.size + 1 + 1) [.int .i64 0]] :=
  ⟨_, rfl, (((A0.start fun _ _ => trivial).box _ _).box' _ _ (by simp)).box' _ _ (by simp)⟩
 have hb := M.below fun _ _ => trivial
 have HK := show Hid _ from s7.nice _ _ _ _ φ (fun b => φ b ∧ b < w.heap.size) ⟨hb.size, fun b hl hf => ⟨⟨hf, hl⟩, hb.block b hl⟩⟩ hk
 clear hb hk
 have x0 := M.c 0 0 rfl rfl
 have x1 := M.c 0 1 rfl rfl
 have x2 := M.c 0 2 rfl rfl
 have y0 := M.c 1 0 rfl rfl
 have y1 := M.c 1 1 rfl rfl
 have y2 := M.c 1 2 rfl rfl
 have HM := show Hid _ from M
 rw [hW] at x0 x1 x2 y0 y1 y2
 clear M
 go_enter Try.func92, Try.ntmps92
 go_wp2_with fail
 rw [← hW]
 clear hW x0 x1 x2 y0 y1 y2
 refine (aM7 a1 a2 nv c1 na c2 v3 h1 h2 5 1 (by omega) (by omega) e _ _ 0 _ _ ⟨kv, rfl, HK.out⟩ (fun h => by have := h.2; omega) (HM.out.blk 2 rfl) (by omega)).mono ?_
 rintro x w1 ⟨rfl, -, ⟨u, r2⟩, kp⟩
 rw [aE5]
 have M := HM.out.callB 2 rfl kp r2
 have HB := show Hid _ from M.below fun _ _ => trivial
 clear kp r2 M
 go_wp2_with fail
 go_ret
 exact ⟨rfl, HB.out⟩
end Go.Proofs.Ytgmhmijcnlfmfaa
