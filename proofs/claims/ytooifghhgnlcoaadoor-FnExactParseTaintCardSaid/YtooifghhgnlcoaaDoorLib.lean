/-
  Rows of cells: what a slice value holds in a world, and that it goes on holding it while new blocks are laid. Conditions: none.
-/
import Derived.WalkKit
import Derived.ProofKit
import Derived.Handy
import Derived.WalkSmall
import Derived.Deep.QuietTactic
import Derived.BigQuiet
import Derived.StillTailTactics
namespace Go.Proofs.YtooifghhgnlcoaaDoor
set_option linter.unusedVariables false
set_option linter.unusedSimpArgs false
open Go Go.RowKit

/-- A slice value of n elements of sz cells each; its cells are xs. -/
def Row (w : World) (v : Value) (n sz : Nat) (xs : List Value) : Prop :=
  xs.length = n * sz ∧ ∃ a cap, v = .slice a n cap ∧ n ≤ cap ∧ cap ≤ maxLen ∧
    (0 < n → ∃ b off, a = some ⟨b, off, none⟩ ∧ b < w.heap.size ∧ ∀ j u, xs[j]? = some u → w.cell? ⟨b, off + j, none⟩ = some u)

theorem bcell {W w1 : World} (hb : Below W.heap.size W w1) : (∀ b o, b < W.heap.size → w1.cell? ⟨b, o, none⟩ = W.cell? ⟨b, o, none⟩) ∧ (∀ b o, b < W.heap.size → w1.frozen? ⟨b, o, none⟩ = W.frozen? ⟨b, o, none⟩) :=
  ⟨fun b o h => hb.cell (p := ⟨b, o, none⟩) h, fun b o h => hb.frozen (p := ⟨b, o, none⟩) h⟩

theorem Row.below {w w' : World} {v : Value} {n sz : Nat} {xs : List Value} (h : Row w v n sz xs) (hb : Below w.heap.size w w') : Row w' v n sz xs := by
  obtain ⟨hl, a, cap, rfl, h1, h2, h3⟩ := h
  refine ⟨hl, a, cap, rfl, h1, h2, fun hn => ?_⟩
  obtain ⟨b, off, rfl, hbk, hc⟩ := h3 hn
  exact ⟨b, off, rfl, Nat.lt_of_lt_of_le hbk hb.size, fun j u hj => ((bcell hb).1 b _ hbk).trans (hc j u hj)⟩

theorem Row.len {w : World} {v : Value} {n sz : Nat} {xs : List Value} (h : Row w v n sz xs) : n ≤ 9223372036854775807 := by
  obtain ⟨_, a, cap, rfl, h1, h2, _⟩ := h; unfold maxLen at h2; omega

theorem Row.nil (w : World) (sz : Nat) : Row w (.slice none 0 0) 0 sz [] := ⟨by simp, none, 0, rfl, Nat.le_refl _, by unfold maxLen; omega, fun h => absurd h (by omega)⟩

/-- The shape of the value; at an index its address and its cells. -/
theorem Row.open {w : World} {v : Value} {n sz : Nat} {xs : List Value} (h : Row w v n sz xs) : ∃ a cap, v = .slice a n cap ∧ n ≤ cap ∧ n ≤ 9223372036854775807 ∧ cap ≤ 9223372036854775807 ∧
    ∀ i, i < n → ∃ b off, a = some ⟨b, off, none⟩ ∧ b < w.heap.size ∧ ∀ j, j < sz → w.cell? ⟨b, off + i * sz + j, none⟩ = xs[i * sz + j]? := by
  obtain ⟨hl, a, cap, rfl, h1, h2, h3⟩ := h
  unfold maxLen at h2
  refine ⟨a, cap, rfl, h1, by omega, by omega, fun i hi => ?_⟩
  obtain ⟨b, off, rfl, hbk, hc⟩ := h3 (by omega)
  refine ⟨b, off, rfl, hbk, fun j hj => ?_⟩
  have hlt : i * sz + j < xs.length := by
    rw [hl]; have := Nat.mul_le_mul_right sz (Nat.succ_le_of_lt hi); rw [Nat.succ_mul] at this; omega
  rw [List.getElem?_eq_getElem hlt, Nat.add_assoc]
  exact hc _ _ (List.getElem?_eq_getElem hlt)

theorem Row.form {w : World} {v : Value} {n sz : Nat} {xs : List Value} (h : Row w v n sz xs) : ∃ a cap, v = .slice a n cap := by
  obtain ⟨_, a, cap, hv, _⟩ := h
  exact ⟨a, cap, hv⟩

/-- One cell an element. -/
theorem Row.open1 {w : World} {v : Value} {n : Nat} {xs : List Value} (h : Row w v n 1 xs) : ∃ a cap, v = .slice a n cap ∧ n ≤ cap ∧ n ≤ 9223372036854775807 ∧ cap ≤ 9223372036854775807 ∧
    ∀ i, i < n → ∃ b off, a = some ⟨b, off, none⟩ ∧ b < w.heap.size ∧ w.cell? ⟨b, off + i, none⟩ = xs[i]? := by
  obtain ⟨a, cap, h0, h1, h2, h3, h4⟩ := h.open
  refine ⟨a, cap, h0, h1, h2, h3, fun i hi => ?_⟩
  obtain ⟨b, off, e, hb, hc⟩ := h4 i hi
  exact ⟨b, off, e, hb, by simpa using hc 0 (by omega)⟩

/-- An owned row is a row. -/
theorem owns_row {w : World} {base : Nat} {e : TypeId} {sz : Nat} {v : Value} {n : Nat} {xs : List Value} (h : w.ownsRow base e sz v n xs) : Row w v n sz xs := by
  refine ⟨h.1, ?_⟩
  rcases h.2 with ⟨rfl, rfl⟩ | ⟨g, cap, cur, rfl, hbg, hg, hnc, hcm, hcs, ht⟩
  · exact ⟨none, 0, rfl, Nat.le_refl _, by unfold maxLen; omega, fun h => absurd h (by omega)⟩
  · refine ⟨some ⟨g, 0, none⟩, cap, rfl, hnc, hcm, fun _ => ⟨g, 0, rfl, (Array.getElem?_eq_some_iff.1 hg).1, fun j u hj => ?_⟩⟩
    have hadd : (⟨g, 0, none⟩ : Addr).add j = ⟨g, 0 + j, none⟩ := by unfold Addr.add; split <;> simp_all
    rw [← hadd]
    exact h.cells (g := g) rfl j u hj

/-- What is owned stays owned while only blocks below the base, or new ones, turn. -/
theorem owns_below {w w' : World} {base B : Nat} {e : TypeId} {sz : Nat} {v : Value} {n : Nat} {xs : List Value} (h : w.ownsRow base e sz v n xs) (hb : Below B w w') (hB : w.heap.size ≤ B) : w'.ownsRow base e sz v n xs := by
  refine ⟨h.1, ?_⟩
  rcases h.2 with hn | ⟨g, cap, cur, rfl, hbg, hg, hnc, hcm, hcs, ht⟩
  · exact .inl hn
  · have hlt : g < w.heap.size := (Array.getElem?_eq_some_iff.1 hg).1
    exact .inr ⟨g, cap, cur, rfl, hbg, (hb.block g (by omega)).trans hg, hnc, hcm, hcs, ht⟩

theorem owns_base {w : World} {base base' : Nat} {e : TypeId} {sz : Nat} {v : Value} {n : Nat} {xs : List Value} (h : w.ownsRow base e sz v n xs) (hb : base' ≤ base) : w.ownsRow base' e sz v n xs := by
  refine ⟨h.1, ?_⟩
  rcases h.2 with hn | ⟨g, cap, cur, rfl, hbg, r⟩
  · exact .inl hn
  · exact .inr ⟨g, cap, cur, rfl, by omega, r⟩

/-- An owned row whose block lies from lo on and below hi. -/
def Own (w : World) (lo hi : Nat) (e : TypeId) (sz : Nat) (v : Value) (n : Nat) (xs : List Value) : Prop :=
  w.ownsRow lo e sz v n xs ∧ ∀ g, v.ownBlock = some g → g < hi

/-- Outside the blocks from lo on and below hi nothing has turned. -/
structure Out (lo hi : Nat) (w w' : World) : Prop where
  os : w'.os = w.os
  tape : w'.tape = w.tape
  output : w'.output = w.output
  size : w.heap.size ≤ w'.heap.size
  block : ∀ k, k < w.heap.size → (k < lo ∨ hi ≤ k) → w'.heap[k]? = w.heap[k]?

theorem Out.refl (lo hi : Nat) (w : World) : Out lo hi w w := ⟨rfl, rfl, rfl, Nat.le_refl _, fun _ _ _ => rfl⟩
theorem Out.trans {lo hi : Nat} {a b c : World} (h : Out lo hi a b) (k : Out lo hi b c) : Out lo hi a c :=
  ⟨k.os.trans h.os, k.tape.trans h.tape, k.output.trans h.output, Nat.le_trans h.size k.size, fun i hi ho => (k.block i (Nat.lt_of_lt_of_le hi h.size) ho).trans (h.block i hi ho)⟩
theorem Out.wide {lo hi lo' hi' : Nat} {a b : World} (h : Out lo hi a b) (h1 : lo' ≤ lo) (h2 : hi ≤ hi') : Out lo' hi' a b :=
  ⟨h.os, h.tape, h.output, h.size, fun k hk ho => h.block k hk (by omega)⟩
theorem Out.below {lo hi B : Nat} {a b : World} (h : Out lo hi a b) (h1 : B ≤ lo) (h2 : B ≤ a.heap.size) : Below B a b :=
  ⟨h.os, h.tape, h.output, h.size, fun k hk => h.block k (by omega) (by omega)⟩
theorem Out.of_below {lo hi B : Nat} {a b : World} (h : Below B a b) (h1 : a.heap.size ≤ B) : Out lo hi a b :=
  ⟨h.os, h.tape, h.output, h.size, fun k hk _ => h.block k (by omega)⟩
theorem Out.setCell {lo hi : Nat} {a w : World} (h : Out lo hi a w) {p : Addr} (h1 : lo ≤ p.block) (h2 : p.block < hi) (u : Value) : Out lo hi a (w.setCell p u) :=
  h.trans ⟨rfl, rfl, rfl, by simp [World.setCell], fun k _ ho => Below.heap_setCell _ _ _ _ (by omega)⟩

theorem Own.lt {w : World} {lo hi : Nat} {e : TypeId} {sz : Nat} {v : Value} {n : Nat} {xs : List Value} (h : Own w lo hi e sz v n xs) : ∀ g, v.ownBlock = some g → lo ≤ g ∧ g < hi ∧ g < w.heap.size :=
  fun g hg => ⟨(h.1.lt g hg).1, h.2 g hg, (h.1.lt g hg).2⟩
theorem Own.row {w : World} {lo hi : Nat} {e : TypeId} {sz : Nat} {v : Value} {n : Nat} {xs : List Value} (h : Own w lo hi e sz v n xs) : Row w v n sz xs := owns_row h.1
theorem Own.mk' {w : World} {lo : Nat} {e : TypeId} {sz : Nat} {v : Value} {n : Nat} {xs : List Value} (h : w.ownsRow lo e sz v n xs) : Own w lo w.heap.size e sz v n xs :=
  ⟨h, fun g hg => (h.lt g hg).2⟩
theorem Own.wide {w : World} {lo hi lo' hi' : Nat} {e : TypeId} {sz : Nat} {v : Value} {n : Nat} {xs : List Value} (h : Own w lo hi e sz v n xs) (h1 : lo' ≤ lo) (h2 : hi ≤ hi') : Own w lo' hi' e sz v n xs :=
  ⟨owns_base h.1 h1, fun g hg => Nat.lt_of_lt_of_le (h.2 g hg) h2⟩
theorem Own.form {w : World} {lo hi : Nat} {e : TypeId} {sz : Nat} {v : Value} {n : Nat} {xs : List Value} (h : Own w lo hi e sz v n xs) : ∃ a cap, v = .slice a n cap := by
  obtain ⟨_, a, cap, hv, _⟩ := h.row
  exact ⟨a, cap, hv⟩
/-- Kept where its own block has not turned. -/
theorem Own.same {w w' : World} {lo hi : Nat} {e : TypeId} {sz : Nat} {v : Value} {n : Nat} {xs : List Value} (h : Own w lo hi e sz v n xs)
    (hs : ∀ g, v.ownBlock = some g → w'.heap[g]? = w.heap[g]?) : Own w' lo hi e sz v n xs := by
  refine ⟨⟨h.1.1, ?_⟩, h.2⟩
  rcases h.1.2 with hn | ⟨g, cap, cur, rfl, hbg, hg, r⟩
  · exact .inl hn
  · exact .inr ⟨g, cap, cur, rfl, hbg, (hs g rfl).trans hg, r⟩
theorem Own.keep {w w' : World} {lo hi B : Nat} {e : TypeId} {sz : Nat} {v : Value} {n : Nat} {xs : List Value} (h : Own w lo hi e sz v n xs) (hb : Below B w w') (hB : hi ≤ B) : Own w' lo hi e sz v n xs :=
  h.same fun g hg => hb.block g (by have := h.lt g hg; omega)
theorem Own.out {w w' : World} {lo hi lo' hi' : Nat} {e : TypeId} {sz : Nat} {v : Value} {n : Nat} {xs : List Value} (h : Own w lo hi e sz v n xs) (ho : Out lo' hi' w w') (hd : hi ≤ lo' ∨ hi' ≤ lo) : Own w' lo hi e sz v n xs :=
  h.same fun g hg => ho.block g (h.lt g hg).2.2 (by have := h.lt g hg; omega)
/-- An owned row, opened: its value and its block; its cells can be written. -/
theorem Own.open {w : World} {lo hi : Nat} {e : TypeId} {sz : Nat} {v : Value} {n : Nat} {xs : List Value} (h : Own w lo hi e sz v n xs) (hn : 0 < n) :
    ∃ g cap, v = .slice (some ⟨g, 0, none⟩) n cap ∧ lo ≤ g ∧ g < hi ∧ g < w.heap.size ∧ n ≤ cap ∧ cap ≤ maxLen ∧ (∀ o, w.frozen? ⟨g, o, none⟩ = false) ∧ ∀ j u, xs[j]? = some u → w.cell? ⟨g, j, none⟩ = some u := by
  have hl := h.lt
  rcases h.1.2 with ⟨_, h0⟩ | ⟨g, cap, cur, rfl, hbg, hg, hnc, hcm, hcs, ht⟩
  · omega
  · obtain ⟨l1, l2, l3⟩ := hl g rfl
    refine ⟨g, cap, rfl, l1, l2, l3, hnc, hcm, fun o => ?_, fun j u hj => ?_⟩
    · simp only [World.frozen?, hg]; simp
    · have hadd : (⟨g, 0, none⟩ : Addr).add j = ⟨g, j, none⟩ := by unfold Addr.add; split <;> simp_all
      rw [← hadd]
      exact h.1.cells (g := g) rfl j u hj
/-- Where an owned row is written: the value, its block, the cell. -/
theorem Own.at {w : World} {lo hi : Nat} {e : TypeId} {sz : Nat} {v : Value} {n : Nat} {xs : List Value} (h : Own w lo hi e sz v n xs) {j : Nat} (hj : j < xs.length) :
    ∃ g cap, v = .slice (some ⟨g, 0, none⟩) n cap ∧ lo ≤ g ∧ g < hi ∧ g < w.heap.size ∧ w.frozen? ⟨g, j, none⟩ = false ∧ ∃ u, w.cell? ⟨g, j, none⟩ = some u := by
  have hn : 0 < n := by
    rcases Nat.eq_zero_or_pos n with h0 | h0
    · subst h0; have := h.1.1; omega
    · exact h0
  obtain ⟨g, cap, hv, h1, h2, h3, _, _, h4, h5⟩ := h.open hn
  exact ⟨g, cap, hv, h1, h2, h3, h4 j, _, h5 j _ (List.getElem?_eq_getElem hj)⟩
/-- A cell of an owned row is written. -/
theorem Own.setCell {w : World} {lo hi : Nat} {e : TypeId} {sz : Nat} {n cap g : Nat} {xs : List Value} (h : Own w lo hi e sz (.slice (some ⟨g, 0, none⟩) n cap) n xs) {j : Nat} (_hj : j < xs.length) (u : Value) :
    Own (w.setCell ⟨g, j, none⟩ u) lo hi e sz (.slice (some ⟨g, 0, none⟩) n cap) n (xs.set j u) := by
  refine ⟨⟨by rw [List.length_set]; exact h.1.1, ?_⟩, h.2⟩
  rcases h.1.2 with ⟨hv, _⟩ | ⟨g', cap', cur, hv, hbg, hg, hnc, hcm, hcs, ht⟩
  · cases hv
  · cases hv
    refine .inr ⟨g, cap, cur.setIfInBounds j u, rfl, hbg, ?_, hnc, hcm, by simpa using hcs, ?_⟩
    · have hlt := (Array.getElem?_eq_some_iff.1 hg).1
      simp only [World.setCell, Array.getElem?_modify]
      simp [hg]
    · rw [Array.toList_setIfInBounds, List.take_set, ht]

theorem ret_bool {a b : Bool} (h : a = b) : Ending.returned (.bool a) = .returned (.bool b) := by rw [h]
theorem ret_int {k : IntKind} {a b : Int} (h : a = b) : Ending.returned (.int k a) = .returned (.int k b) := by rw [h]

/-- What is left of m when n are taken; -1 if there are too few. -/
def szRes (m : Int) (n : Nat) : Int := if m < n then -1 else m - n
theorem szRes_neg {m : Int} {n : Nat} (h : m < n) : szRes m n = -1 := if_pos h
theorem szRes_pos {m : Int} {n : Nat} (h : ¬ m < n) : szRes m n = m - n := if_neg h

theorem take_succ_get {α : Type} (l : List α) (k : Nat) (h : k < l.length) : l.take (k + 1) = l.take k ++ [l[k]] := by
  rw [List.take_succ_eq_append_getElem h]

theorem take_eq_succ {α : Type} {xs ys : List α} {k : Nat} (h : xs.take k = ys.take k) (h1 : k < xs.length) (h2 : k < ys.length) (he : xs[k] = ys[k]) : xs.take (k + 1) = ys.take (k + 1) := by
  rw [take_succ_get _ _ h1, take_succ_get _ _ h2, h, he]
theorem take_eq_all {α : Type} {xs ys : List α} {k : Nat} (h : xs.take k = ys.take k) (h1 : xs.length ≤ k) (h2 : ys.length ≤ k) : xs = ys := by
  rw [List.take_of_length_le h1, List.take_of_length_le h2] at h; exact h
theorem take_set_succ {α : Type} (ys : List α) (k : Nat) (u : α) (h : k < ys.length) : (ys.set k u).take (k + 1) = ys.take k ++ [u] := by
  rw [take_succ_get _ _ (by simpa using h), List.take_set_of_le (Nat.le_refl _)]; simp

/-- The cells of n zero elements. -/
def zeroRow (z : List Value) (n : Nat) : List Value := (List.replicate n z).flatten
theorem zeroRow_length (z : List Value) (n : Nat) : (zeroRow z n).length = n * z.length := by simp [zeroRow]
theorem zeroRow_one (z : Value) (n : Nat) : zeroRow [z] n = List.replicate n z := by
  unfold zeroRow
  induction n with
  | zero => rfl
  | succ n ih => rw [List.replicate_succ, List.flatten_cons, ih]; rfl

theorem madeCells_zero (z : Array Value) (n : Nat) (_hz : 0 < z.size) : madeCells z (n * z.size) = (zeroRow z.toList n).toArray := by
  apply Array.ext
  · simp [size_madeCells, zeroRow_length]
  · intro i h1 h2
    simp only [madeCells, Array.getElem_map, Array.getElem_range, List.getElem_toArray]
    have hlt : i < (zeroRow z.toList n).length := by simpa using h2
    have key : ∀ (m i : Nat), i < (zeroRow z.toList m).length → (zeroRow z.toList m)[i]? = some (z[i % z.size]!) := by
      intro m
      induction m with
      | zero => intro i hi; simp [zeroRow] at hi
      | succ m ih =>
        intro i hi
        have e : zeroRow z.toList (m + 1) = z.toList ++ zeroRow z.toList m := by simp [zeroRow, List.replicate_succ]
        rw [e]
        by_cases hlt : i < z.size
        · rw [List.getElem?_append_left (by simpa using hlt), Nat.mod_eq_of_lt hlt]
          simp [hlt]
        · rw [List.getElem?_append_right (by simp; omega)]
          have := ih (i - z.toList.length) (by rw [e, List.length_append] at hi; rw [Array.length_toList] at hi ⊢; omega)
          rw [this]
          congr 2
          rw [Array.length_toList]
          exact (Nat.mod_eq_sub_mod (by omega)).symm
    have := key n i hlt
    rw [List.getElem?_eq_getElem hlt] at this
    exact (Option.some.inj this).symm

/-- make([]T, n), as an equation for the walk. -/
theorem make_run {P : Program} {t e : TypeId} {z : Value} {size bytes : Nat} (ht : P.underlying t = some (.slice e)) (hi : (P.info? e).map (fun i => (i.zero, i.size, i.bytes)) = some (some z, size, bytes))
    (hz : z.cells.size = size) (hs : 0 < size) (n : Nat) (hn : bytes * n ≤ 281474976710656) (hm : n ≤ 9223372036854775807) :
    ∀ w, (Instr.makeSlice t (.int .i64 n) (.int .i64 n)).run P w = .ok (.slice (some ⟨w.heap.size, 0, none⟩) n n) (w.alloc (.cells (zeroRow z.cells.toList n).toArray e)) := by
  intro w
  obtain ⟨i, h1, h2, h3, h4⟩ := info_parts hi
  have := run_make (P := P) w t e i z ht h1 h2 .i64 .i64 n n (by omega) (Int.le_refl _) (by rw [h4, ← Int.natCast_mul]; omega) (by omega)
  rw [this]
  simp only [Int.toNat_natCast, h3]
  subst hz
  rw [madeCells_zero _ _ hs]

theorem own_built (w : World) {g : Nat} (cs : Array Value) (n sz : Nat) (e : TypeId) (hg : g = w.heap.size) (hz : cs.size = n * sz) (hm : n ≤ 9223372036854775807) :
    Own (w.alloc (.cells cs e)) w.heap.size (w.heap.size + 1) e sz (.slice (some ⟨g, 0, none⟩) n n) n cs.toList := by
  subst hg
  refine ⟨⟨by simpa using hz, .inr ⟨w.heap.size, n, _, rfl, Nat.le_refl _, heap_alloc_new w _, Nat.le_refl _, by unfold maxLen; omega, hz, ?_⟩⟩, fun g hg => by cases hg; exact Nat.lt_succ_self _⟩
  rw [← hz]
  exact List.take_of_length_le (by simp)

theorem own_made (w : World) (z : List Value) (n sz : Nat) (e : TypeId) (hz : z.length = sz) (hm : n ≤ 9223372036854775807) :
    Own (w.alloc (.cells (zeroRow z n).toArray e)) w.heap.size (w.heap.size + 1) e sz (.slice (some ⟨w.heap.size, 0, none⟩) n n) n (zeroRow z n) := by
  refine ⟨⟨by rw [zeroRow_length, hz], .inr ⟨w.heap.size, n, _, rfl, Nat.le_refl _, heap_alloc_new w _, Nat.le_refl _, by unfold maxLen; omega, by simp [zeroRow_length, hz], ?_⟩⟩, fun g hg => by cases hg; exact Nat.lt_succ_self _⟩
  have : (zeroRow z n).length = n * sz := by rw [zeroRow_length, hz]
  rw [← this]
  simp

/-- The cells from p on become us. -/
def setFrom (ys : List Value) (p : Nat) : List Value → List Value
  | [] => ys
  | u :: r => setFrom (ys.set p u) (p + 1) r
def World.setFrom (w : World) (g p : Nat) : List Value → World
  | [] => w
  | u :: r => World.setFrom (w.setCell ⟨g, p, none⟩ u) g (p + 1) r
theorem setFrom_len (us : List Value) : ∀ (ys : List Value) (p : Nat), (setFrom ys p us).length = ys.length := by
  induction us with
  | nil => intro ys p; rfl
  | cons u r ih => intro ys p; simp [setFrom, ih]
theorem setFrom_take (us : List Value) : ∀ (ys : List Value) (p : Nat), p + us.length ≤ ys.length → (setFrom ys p us).take (p + us.length) = ys.take p ++ us := by
  induction us with
  | nil => intro ys p h; simp [setFrom]
  | cons u r ih =>
    intro ys p h
    simp only [List.length_cons] at h
    have := ih (ys.set p u) (p + 1) (by simp; omega)
    simp only [setFrom, List.length_cons]
    rw [show p + (r.length + 1) = p + 1 + r.length by omega, this, take_set_succ _ _ _ (by omega)]
    simp
theorem Own.setFrom {lo hi : Nat} {e : TypeId} {sz n cap g : Nat} (us : List Value) : ∀ {w : World} {xs : List Value} {p : Nat}, Own w lo hi e sz (.slice (some ⟨g, 0, none⟩) n cap) n xs → p + us.length ≤ xs.length →
    Own (World.setFrom w g p us) lo hi e sz (.slice (some ⟨g, 0, none⟩) n cap) n (setFrom xs p us) := by
  induction us with
  | nil => intro w xs p h _; exact h
  | cons u r ih =>
    intro w xs p h hl
    simp only [List.length_cons] at hl
    exact ih (h.setCell (by omega) u) (by simp; omega)
theorem Out.setFrom {lo hi g : Nat} {a : World} (us : List Value) : ∀ {w : World} {p : Nat}, Out lo hi a w → lo ≤ g → g < hi → Out lo hi a (World.setFrom w g p us) := by
  induction us with
  | nil => intro w p h _ _; exact h
  | cons u r ih => intro w p h h1 h2; exact ih (h.setCell h1 h2 u) h1 h2
theorem below_setFrom {B g : Nat} {a : World} (us : List Value) : ∀ {w : World} {p : Nat}, Below B a w → B ≤ g → Below B a (World.setFrom w g p us) := by
  induction us with
  | nil => intro w p h _; exact h
  | cons u r ih => intro w p h h1; exact ih (h.setCell h1 u) h1

/-- The least range of an owned row. -/
theorem Own.tight {w : World} {lo hi : Nat} {e : TypeId} {sz : Nat} {v : Value} {n : Nat} {xs : List Value} (h : Own w lo hi e sz v n xs) :
    ∃ lo' hi', lo ≤ lo' ∧ hi' ≤ hi ∧ Own w lo' hi' e sz v n xs ∧ ∀ g, lo' ≤ g → g < hi' → v.ownBlock = some g := by
  have hl := h.lt
  cases hv : v.ownBlock with
  | none =>
    refine ⟨max lo hi, hi, by omega, Nat.le_refl _, ⟨⟨h.1.1, ?_⟩, fun g hg => by rw [hv] at hg; cases hg⟩, fun g h1 h2 => by omega⟩
    rcases h.1.2 with hn | ⟨g, cap, cur, rfl, _⟩
    · exact .inl hn
    · cases hv
  | some g =>
    obtain ⟨l1, l2, l3⟩ := hl g hv
    refine ⟨g, g + 1, l1, l2, ⟨⟨h.1.1, ?_⟩, fun g' hg => by rw [hv] at hg; cases hg; omega⟩, fun g' h1 h2 => by rw [show g' = g by omega]⟩
    rcases h.1.2 with hn | ⟨g', cap, cur, rfl, r⟩
    · exact .inl hn
    · cases hv
      exact .inr ⟨_, cap, cur, rfl, Nat.le_refl _, r.2⟩

/-- Two values do not lie in one block. -/
def Disj (u v : Value) : Prop := ∀ g, u.ownBlock = some g → v.ownBlock ≠ some g
theorem Disj.symm {u v : Value} (h : Disj u v) : Disj v u := fun g h1 h2 => h g h2 h1
theorem disj_of {w w' : World} {lo hi lo' hi' : Nat} {e e' : TypeId} {sz sz' : Nat} {v v' : Value} {n n' : Nat} {xs xs' : List Value} (h : Own w lo hi e sz v n xs) (h' : Own w' lo' hi' e' sz' v' n' xs') (hd : hi ≤ lo' ∨ hi' ≤ lo) : Disj v v' := by
  intro g h1 h2
  have := h.lt g h1
  have := h'.lt g h2
  omega
theorem Own.disj {w w' : World} {lo hi lo' hi' : Nat} {e : TypeId} {sz : Nat} {v u : Value} {n : Nat} {xs : List Value} (h : Own w lo hi e sz v n xs) (ho : Out lo' hi' w w') (ht : ∀ g, lo' ≤ g → g < hi' → u.ownBlock = some g) (hd : Disj u v) : Own w' lo hi e sz v n xs :=
  h.same fun g hg => ho.block g (h.lt g hg).2.2 (by
    rcases Nat.lt_or_ge g lo' with h1 | h1
    · exact .inl h1
    · rcases Nat.lt_or_ge g hi' with h2 | h2
      · exact absurd hg (hd g (ht g h1 h2))
      · exact .inr h2)

/-- A block known whole, not frozen: a variable of the call's own. -/
def Blk (w : World) (b : Nat) (cs : List Value) : Prop := ∃ T, w.heap[b]? = some (.cells cs.toArray T (0, 0))

theorem Blk.lt {w : World} {b : Nat} {cs : List Value} (h : Blk w b cs) : b < w.heap.size := by
  obtain ⟨T, h⟩ := h; exact (Array.getElem?_eq_some_iff.1 h).1
theorem Blk.cell {w : World} {b : Nat} {cs : List Value} (h : Blk w b cs) (j : Nat) : w.cell? ⟨b, j, none⟩ = cs[j]? := by
  obtain ⟨T, h⟩ := h; simp [World.cell?, h]
theorem Blk.free {w : World} {b : Nat} {cs : List Value} (h : Blk w b cs) (j : Nat) : w.frozen? ⟨b, j, none⟩ = false := by
  obtain ⟨T, h⟩ := h; simp only [World.frozen?, h]; simp
theorem Blk.below {w w' : World} {b B : Nat} {cs : List Value} (h : Blk w b cs) (hb : Below B w w') (hB : b < B) : Blk w' b cs := by
  obtain ⟨T, h⟩ := h; exact ⟨T, (hb.block b hB).trans h⟩
theorem Blk.out {w w' : World} {b lo hi : Nat} {cs : List Value} (h : Blk w b cs) (hb : Out lo hi w w') (hB : b < lo ∨ hi ≤ b) : Blk w' b cs := by
  have hlt := h.lt
  obtain ⟨T, h⟩ := h; exact ⟨T, (hb.block b hlt hB).trans h⟩
theorem Blk.set {w : World} {b j : Nat} {cs : List Value} (h : Blk w b cs) (u : Value) : Blk (w.setCell ⟨b, j, none⟩ u) b (cs.set j u) := by
  obtain ⟨T, h⟩ := h
  refine ⟨T, ?_⟩
  simp only [World.setCell, Array.getElem?_modify]
  simp [h]
theorem Blk.other {w : World} {b : Nat} {p : Addr} {cs : List Value} (h : Blk w b cs) (hp : b ≠ p.block) (u : Value) : Blk (w.setCell p u) b cs := by
  obtain ⟨T, h⟩ := h; exact ⟨T, (Below.heap_setCell _ _ _ _ hp).trans h⟩
theorem Blk.new (w : World) (cs : List Value) (T : TypeId) : Blk (w.alloc (.cells cs.toArray T)) w.heap.size cs := ⟨T, heap_alloc_new w _⟩
theorem Blk.new' (w : World) {b : Nat} (cs : List Value) (T : TypeId) (hb : b = w.heap.size) : Blk (w.alloc (.cells cs.toArray T)) b cs := by subst hb; exact Blk.new w cs T
theorem Blk.alloc {w : World} {b : Nat} {cs : List Value} (h : Blk w b cs) (o : Obj) : Blk (w.alloc o) b cs := by
  have hlt := h.lt
  obtain ⟨T, h⟩ := h; exact ⟨T, (Below.heap_alloc w o b hlt).trans h⟩
theorem Blk.drew {w : World} {b : Nat} {cs : List Value} (h : Blk w b cs) : Blk w.drew b cs := h
theorem Out.cell (w : World) (b j : Nat) (u : Value) : Out b (b + 1) w (w.setCell ⟨b, j, none⟩ u) :=
  Out.setCell (p := ⟨b, j, none⟩) (Out.refl b (b + 1) w) (Nat.le_refl b) (Nat.lt_succ_self b) u
theorem Own.other {w : World} {lo hi : Nat} {e : TypeId} {sz : Nat} {v : Value} {n : Nat} {xs : List Value} (h : Own w lo hi e sz v n xs) {b : Nat} (hb : b < lo ∨ hi ≤ b) (j : Nat) (u : Value) : Own (w.setCell ⟨b, j, none⟩ u) lo hi e sz v n xs :=
  h.out (Out.cell w b j u) (by omega)

end Go.Proofs.YtooifghhgnlcoaaDoor
