/-
  A taint map in memory of the call's own: a row is put in, a bit is set. Conditions: none.
-/
import Derived.Test.YtjlnaiifegjneaaOpenMat
import Derived.Test.YtjlnaiifegjneaaPure5
import Derived.Test.YtjlnaiifegjneaaBox
namespace Go.Proofs.Ytjlnaiifegjneaa
open Go Go.RowKit

/-- A map of the call's own; where a row is lacking its slice is nil. -/
def MatS (w : World) (lo hi g : Nat) (m : List (List Bool)) : Prop :=
  MatOwn w lo hi (.slice (some ⟨g, 0, none⟩) m.length m.length) m ∧ ∀ i : Nat, i < m.length → (rowAt m i).length = 0 → w.cell? ⟨g, i, none⟩ = some (.slice none 0 0)

theorem MatS.wide {w : World} {lo hi lo' hi' g : Nat} {m : List (List Bool)} (h : MatS w lo hi g m) (h1 : lo' ≤ lo) (h2 : hi ≤ hi') : MatS w lo' hi' g m := ⟨h.1.wide h1 h2, h.2⟩
theorem MatS.lt {w : World} {lo hi g : Nat} {m : List (List Bool)} (h : MatS w lo hi g m) : lo ≤ g ∧ g < hi ∧ g < w.heap.size := by
  obtain ⟨vs, h1, _⟩ := h.1
  exact h1.lt g rfl
theorem MatS.keep {w w' : World} {lo hi B g : Nat} {m : List (List Bool)} (h : MatS w lo hi g m) (hb : Below B w w') (hB : hi ≤ B) : MatS w' lo hi g m := by
  have hl := h.lt
  exact ⟨h.1.keep hb hB, fun i hi h0 => (hb.cell (p := ⟨g, i, none⟩) (by show g < B; omega)).trans (h.2 i hi h0)⟩

/-- The row at an index. -/
theorem MatS.at {w : World} {lo hi g : Nat} {m : List (List Bool)} (h : MatS w lo hi g m) {i : Nat} (hi' : i < m.length) :
    w.frozen? ⟨g, i, none⟩ = false ∧ ∃ u, w.cell? ⟨g, i, none⟩ = some u ∧ Own w lo hi 4 1 u (rowAt m i).length (bools (rowAt m i)) ∧ u.ownBlock ≠ some g := by
  obtain ⟨vs, h1, h2, h3, h4⟩ := h.1
  have hl : i < vs.length := by have := h1.1.1; omega
  obtain ⟨g', cap, hv, -, -, -, hf, u0, hc⟩ := h1.at hl
  cases hv
  obtain ⟨g', cap, hv, -, -, -, -, -, -, hcc⟩ := h1.open (by omega)
  cases hv
  have hu := List.getElem?_eq_getElem hl
  refine ⟨hf, vs[i], hcc i _ hu, ?_, fun e => h4 i _ hu g e rfl⟩
  have := h2 i _ _ hu (List.getElem?_eq_getElem hi')
  rw [rowAt_nat hi']
  exact this
theorem MatS.at14 {w : World} {lo hi g : Nat} {m : List (List Bool)} (h : MatS w lo hi g m) {i : Nat} (hi' : i < m.length) (h14 : (rowAt m i).length = 14) :
    ∃ gy cy, w.cell? ⟨g, i, none⟩ = some (.slice (some ⟨gy, 0, none⟩) 14 cy) ∧ lo ≤ gy ∧ gy < hi ∧ gy < w.heap.size ∧ gy ≠ g ∧ 14 ≤ cy ∧ cy ≤ 9223372036854775807 ∧ (∀ o, w.frozen? ⟨gy, o, none⟩ = false) ∧ (∀ k : Nat, k < 14 → w.cell? ⟨gy, k, none⟩ = some (.bool ((rowAt m i).getD k false))) ∧
    Row w (.slice (some ⟨gy, 0, none⟩) 14 cy) 14 1 (bools (rowAt m i)) := by
  obtain ⟨-, u, hc, ho, hn⟩ := h.at hi'
  rw [h14] at ho
  obtain ⟨gy, cy, rfl, g1, g2, g3, g4, g5, g6, g7⟩ := ho.open (by omega)
  refine ⟨gy, cy, hc, g1, g2, g3, fun e => hn (by rw [e]; rfl), g4, g5, g6, fun k hk => ?_, ho.row⟩
  rw [g7 k _ (bools_get _ k (by omega))]
  simp [show k < (rowAt m i).length by omega]

theorem disjSet {vs : List Value} {y : Nat} {u : Value} (hd : ∀ (i j : Nat) (a b : Value), i < j → vs[i]? = some a → vs[j]? = some b → Disj a b) (hu : ∀ i a, vs[i]? = some a → i ≠ y → Disj a u) :
    ∀ (i j : Nat) (a b : Value), i < j → (vs.set y u)[i]? = some a → (vs.set y u)[j]? = some b → Disj a b := by
  intro i j a b hij ha hb
  rw [List.getElem?_set] at ha hb
  by_cases h1 : y = i
  · rw [if_pos h1] at ha
    have h2 : ¬ y = j := by omega
    rw [if_neg h2] at hb
    split at ha
    · cases ha
      exact (hu j b hb (by omega)).symm
    · cases ha
  · rw [if_neg h1] at ha
    by_cases h2 : y = j
    · rw [if_pos h2] at hb
      split at hb
      · cases hb
        exact hu i a ha (by omega)
      · cases hb
    · rw [if_neg h2] at hb
      exact hd i j a b hij ha hb

theorem heap_set_other (w : World) (b j : Nat) (u : Value) (k : Nat) (h : k ≠ b) : (w.setCell ⟨b, j, none⟩ u).heap[k]? = w.heap[k]? := Below.heap_setCell _ _ _ _ h

/-- A new row is put in. -/
theorem MatS.setRow {w : World} {lo hi lo' hi' g : Nat} {m : List (List Bool)} (h : MatS w lo hi g m) {y : Nat} (hy : y < m.length) {u : Value} {r : List Bool} (hr : r.length = 14) (hu : Own w lo' hi' 4 1 u 14 (bools r)) (h1 : hi ≤ lo') (h2 : lo' ≤ hi') :
    MatS (w.setCell ⟨g, y, none⟩ u) lo hi' g (m.set y r) := by
  have hgl := h.lt
  obtain ⟨⟨vs, k1, k2, k3, k4⟩, hnil⟩ := h
  have hvl : vs.length = m.length := by have := k1.1.1; omega
  have hug : ∀ g', u.ownBlock = some g' → g' ≠ g := fun g' e => by have := hu.lt g' e; omega
  refine ⟨⟨vs.set y u, ?_, ?_, ?_, ?_⟩, ?_⟩
  · rw [List.length_set]
    exact (k1.setCell (by omega) u).wide (Nat.le_refl _) (by omega)
  · intro i a r' ha hr'
    rw [List.getElem?_set] at ha hr'
    split at ha
    · rename_i e
      rw [if_pos e] at hr'
      rw [if_pos hy] at hr'
      cases hr'
      split at ha
      · cases ha
        rw [hr]
        exact (hu.same fun g' e => heap_set_other _ _ _ _ _ (hug g' e)).wide (by omega) (Nat.le_refl _)
      · cases ha
    · rename_i e
      rw [if_neg e] at hr'
      exact ((k2 i a r' ha hr').same fun g' e => heap_set_other _ _ _ _ _ fun e' => k4 i a ha g' e (by rw [e']; rfl)).wide (Nat.le_refl _) (by omega)
  · refine disjSet k3 fun i a ha _ => ?_
    have hi : i < m.length := by have := (List.getElem?_eq_some_iff.1 ha).1; omega
    exact disj_of (k2 i a _ ha (List.getElem?_eq_getElem hi)) hu (by omega)
  · intro i a ha
    rw [List.getElem?_set] at ha
    split at ha
    · split at ha
      · cases ha
        exact fun g' e e' => hug g' e (by cases e'; rfl)
      · cases ha
    · have := k4 i a ha
      rw [List.length_set]
      exact this
  · intro i hi h0
    rw [List.length_set] at hi
    rw [rowAt_set _ _ hy] at h0
    split at h0
    · omega
    · rename_i e
      rw [World.cell?_setCell_other _ _ _ _ (by intro e'; cases e'; exact e (by simp))]
      exact hnil i hi h0

/-- A bit of a row is set. -/
theorem MatS.setBit {w : World} {lo hi g : Nat} {m : List (List Bool)} (h : MatS w lo hi g m) {y : Nat} (hy : y < m.length) {gy cy : Nat} (hc : w.cell? ⟨g, y, none⟩ = some (.slice (some ⟨gy, 0, none⟩) 14 cy)) (h14 : (rowAt m y).length = 14) {k : Nat} (hk : k < 14) (b : Bool) :
    MatS (w.setCell ⟨gy, k, none⟩ (.bool b)) lo hi g (m.set y ((rowAt m y).set k b)) := by
  have hgl := h.lt
  obtain ⟨⟨vs, k1, k2, k3, k4⟩, hnil⟩ := h
  have hvl : vs.length = m.length := by have := k1.1.1; omega
  have hyv : y < vs.length := by omega
  obtain ⟨g', cap, hv, -, -, -, -, -, -, hcc⟩ := k1.open (by omega)
  cases hv
  have hvy : vs[y]? = some (.slice (some ⟨gy, 0, none⟩) 14 cy) := by
    have := hcc y _ (List.getElem?_eq_getElem hyv)
    rw [hc] at this
    rw [List.getElem?_eq_getElem hyv, ← Option.some.inj this]
  have hgy : gy ≠ g := fun e => k4 y _ hvy gy rfl (by rw [e]; rfl)
  have hgr : rowAt m y = m[y] := rowAt_nat hy
  refine ⟨⟨vs, ?_, ?_, k3, ?_⟩, ?_⟩
  · rw [List.length_set]
    exact k1.same fun g' e => heap_set_other _ _ _ _ _ (by cases e; exact fun e => hgy e.symm)
  · intro i a r' ha hr'
    rw [List.getElem?_set] at hr'
    by_cases e : y = i
    · subst e
      rw [if_pos rfl, if_pos hy] at hr'
      cases hr'
      rw [hvy] at ha
      cases ha
      have ho := k2 y _ _ hvy (List.getElem?_eq_getElem hy)
      rw [← hgr, h14] at ho
      rw [List.length_set, h14]
      have := ho.setCell (j := k) (by simp; omega) (.bool b)
      rw [show bools ((rowAt m y).set k b) = (bools (rowAt m y)).set k (.bool b) by simp [bools, List.map_set]]
      exact this
    · rw [if_neg e] at hr'
      refine (k2 i a r' ha hr').same fun g' e' => heap_set_other _ _ _ _ _ fun e2 => ?_
      subst e2
      rcases Nat.lt_or_ge y i with hlt | hge
      · exact k3 y i _ _ hlt hvy ha g' rfl e'
      · exact k3 i y _ _ (by omega) ha hvy g' e' rfl
  · intro i a ha
    rw [List.length_set]
    exact k4 i a ha
  · intro i hi h0
    rw [List.length_set] at hi
    rw [rowAt_set _ _ hy] at h0
    split at h0
    · rw [List.length_set] at h0; omega
    · rw [World.cell?_setCell_other _ _ _ _ (by intro e'; cases e'; exact hgy rfl)]
      exact hnil i hi h0

/-- The blocks that hold the map. -/
def MBlk (w : World) (g : Nat) (m : List (List Bool)) (b : Nat) : Prop := b = g ∨ ∃ (i : Nat) (u : Value), i < m.length ∧ w.cell? ⟨g, i, none⟩ = some u ∧ u.ownBlock = some b
theorem MatS.blk {w : World} {lo hi g : Nat} {m : List (List Bool)} (h : MatS w lo hi g m) {b : Nat} (hb : MBlk w g m b) : lo ≤ b ∧ b < hi ∧ b < w.heap.size := by
  rcases hb with rfl | ⟨i, u, hi', hc, hu⟩
  · exact h.lt
  · obtain ⟨-, u', hc', ho, -⟩ := h.at hi'
    rw [hc] at hc'
    cases hc'
    exact ho.lt b hu
theorem cell_same {w w' : World} {b : Nat} (h : w'.heap[b]? = w.heap[b]?) (o : Nat) : w'.cell? ⟨b, o, none⟩ = w.cell? ⟨b, o, none⟩ := by simp [World.cell?, h]
theorem MatS.same {w w' : World} {lo hi g : Nat} {m : List (List Bool)} (h : MatS w lo hi g m) (hs : ∀ b, MBlk w g m b → w'.heap[b]? = w.heap[b]?) : MatS w' lo hi g m ∧ ∀ b, MBlk w' g m b → MBlk w g m b := by
  have hg := hs g (.inl rfl)
  obtain ⟨⟨vs, k1, k2, k3, k4⟩, hnil⟩ := h
  have hvl : vs.length = m.length := by have := k1.1.1; omega
  have hrow : ∀ (i : Nat) (u : Value), vs[i]? = some u → i < m.length ∧ w.cell? ⟨g, i, none⟩ = some u := by
    intro i u hu
    have hi' := (List.getElem?_eq_some_iff.1 hu).1
    obtain ⟨g', cap, hv, -, -, -, -, -, -, hcc⟩ := k1.open (by omega)
    cases hv
    exact ⟨by omega, hcc i u hu⟩
  refine ⟨⟨⟨vs, k1.same fun g' e => by cases e; exact hg, fun i u r hu hr => (k2 i u r hu hr).same fun b e => hs b (.inr ⟨i, u, (hrow i u hu).1, (hrow i u hu).2, e⟩), k3, k4⟩, fun i hi' h0 => (cell_same hg i).trans (hnil i hi' h0)⟩, ?_⟩
  rintro b (rfl | ⟨i, u, h1, h2, h3⟩)
  · exact .inl rfl
  · exact .inr ⟨i, u, h1, (cell_same hg i).symm.trans h2, h3⟩
theorem MatS.next {w w' : World} {lo hi g : Nat} {m : List (List Bool)} (h : MatS w lo hi g m) (hb : Below w.heap.size w w') : MatS w' lo hi g m ∧ ∀ b, MBlk w' g m b → MBlk w g m b :=
  h.same fun b hb' => hb.block b (h.blk hb').2.2
theorem MatS.grown {w w' : World} {lo hi g : Nat} {m : List (List Bool)} {row : Option Nat} (h : MatS w lo hi g m) (hg : w.grownBy w' row) (hne : ∀ b, row = some b → ¬ MBlk w g m b) : MatS w' lo hi g m ∧ ∀ b, MBlk w' g m b → MBlk w g m b :=
  h.same fun b hb' => hg.block b (h.blk hb').2.2 fun he => hne b he.symm hb'
theorem MatS.setRow_blk {w : World} {lo hi g : Nat} {m : List (List Bool)} (h : MatS w lo hi g m) {y : Nat} (hy : y < m.length) (u : Value) (r : List Bool) {b : Nat} (hb : MBlk (w.setCell ⟨g, y, none⟩ u) g (m.set y r) b) : MBlk w g m b ∨ u.ownBlock = some b := by
  rcases hb with rfl | ⟨i, u', h1, h2, h3⟩
  · exact .inl (.inl rfl)
  · rw [List.length_set] at h1
    by_cases e : i = y
    · subst e
      obtain ⟨hf, u0, hc, -, -⟩ := h.at hy
      rw [World.cell?_setCell_same _ _ _ hc] at h2
      cases h2
      exact .inr h3
    · rw [World.cell?_setCell_other _ _ _ _ (by intro e'; cases e'; exact e rfl)] at h2
      exact .inl (.inr ⟨i, u', h1, h2, h3⟩)

theorem MatS.setBit_blk {w : World} {g gy k y b' : Nat} {m : List (List Bool)} {r : List Bool} {u : Value} (hne : gy ≠ g) (hb : MBlk (w.setCell ⟨gy, k, none⟩ u) g (m.set y r) b') : MBlk w g m b' := by
  rcases hb with rfl | ⟨i, u', h1, h2, h3⟩
  · exact .inl rfl
  · rw [List.length_set] at h1
    rw [World.cell?_setCell_other _ _ _ _ (by intro e'; cases e'; exact hne rfl)] at h2
    exact .inr ⟨i, u', h1, h2, h3⟩

/-- A value that lies in no block of the map. -/
def Apart (w : World) (g : Nat) (m : List (List Bool)) (v : Value) : Prop := ∀ b, v.ownBlock = some b → ¬ MBlk w g m b
theorem Apart.next {w w' : World} {lo hi g : Nat} {m : List (List Bool)} {v : Value} (h : Apart w g m v) (hS : MatS w lo hi g m) (hb : Below w.heap.size w w') : Apart w' g m v := fun b hv hm => h b hv ((hS.next hb).2 b hm)
theorem Apart.setRow {w : World} {lo hi g y : Nat} {m : List (List Bool)} {v u : Value} {r : List Bool} (h : Apart w g m v) (hS : MatS w lo hi g m) (hy : y < m.length) (hu : ∀ b, v.ownBlock = some b → u.ownBlock ≠ some b) : Apart (w.setCell ⟨g, y, none⟩ u) g (m.set y r) v := by
  intro b hv hm
  rcases hS.setRow_blk hy _ _ hm with h1 | h1
  · exact h b hv h1
  · exact hu b hv h1
theorem Apart.setBit {w : World} {g gy k y : Nat} {m : List (List Bool)} {v u : Value} {r : List Bool} (h : Apart w g m v) (hne : gy ≠ g) : Apart (w.setCell ⟨gy, k, none⟩ u) g (m.set y r) v := fun b hv hm => h b hv (MatS.setBit_blk hne hm)
theorem own_apart {w : World} {lo hi g b j : Nat} {m : List (List Bool)} {e : TypeId} {sz : Nat} {v u : Value} {n : Nat} {xs : List Value} (h : Own w lo hi e sz v n xs) (ha : Apart w g m v) (hb : MBlk w g m b) : Own (w.setCell ⟨b, j, none⟩ u) lo hi e sz v n xs :=
  h.same fun g' e => heap_set_other _ _ _ _ _ fun e' => ha g' e (e' ▸ hb)

/-- The map in memory is one alone. -/
theorem MatRow.unique {w : World} {v : Value} {m p : List (List Bool)} (h : MatRow w v m) (g : MatRow w v p) : m = p := by
  obtain ⟨a, cap, rfl, -, h2⟩ := h.open
  obtain ⟨a', cap', hv, -, g2⟩ := g.open
  simp only [Value.slice.injEq] at hv
  obtain ⟨rfl, hl, rfl⟩ := hv
  have hl : m.length = p.length := by omega
  apply List.ext_getElem hl
  intro i hi hj
  obtain ⟨b, off, a1, c1, e1, -, x1, r1⟩ := h2 i hi
  obtain ⟨b', off', a2, c2, e2, -, x2, r2⟩ := g2 i hj
  rw [e1] at e2
  cases e2
  rw [x1] at x2
  have x2 := Option.some.inj x2
  simp only [Value.slice.injEq] at x2
  obtain ⟨rfl, hlr, rfl⟩ := x2
  have hlr : m[i].length = p[i].length := by omega
  obtain ⟨a3, k3, hv3, -, -, -, f3⟩ := r1.open1
  obtain ⟨a4, k4, hv4, -, -, -, f4⟩ := r2.open1
  cases hv3
  simp only [Value.slice.injEq] at hv4
  obtain ⟨rfl, -, -⟩ := hv4
  apply List.ext_getElem hlr
  intro j g1 g2
  obtain ⟨b3, o3, e3, -, y3⟩ := f3 j g1
  obtain ⟨b4, o4, e4, -, y4⟩ := f4 j g2
  rw [e3] at e4
  cases e4
  rw [bools_get _ _ g1] at y3
  rw [bools_get _ _ g2] at y4
  rw [y3] at y4
  have := Option.some.inj y4
  cases hb1 : m[i][j] <;> cases hb2 : p[i][j] <;> simp_all
noncomputable def potAt (w : World) (v : Value) : Nat := open Classical in if h : ∃ m, MatRow w v m then pot h.choose else 0
theorem potAt_eq {w : World} {v : Value} {m : List (List Bool)} (h : MatRow w v m) : potAt w v = pot m := by
  unfold potAt
  have hx : ∃ m, MatRow w v m := ⟨m, h⟩
  rw [dif_pos hx]
  rw [MatRow.unique hx.choose_spec h]
theorem MatS.pot {w : World} {lo hi g : Nat} {m : List (List Bool)} (h : MatS w lo hi g m) : potAt w (.slice (some ⟨g, 0, none⟩) m.length m.length) = pot m := potAt_eq h.1.row

end Go.Proofs.Ytjlnaiifegjneaa
