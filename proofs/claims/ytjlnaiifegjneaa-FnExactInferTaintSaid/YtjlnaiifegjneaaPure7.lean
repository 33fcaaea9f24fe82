/-
  The program's search for the least taint map, pass by pass, as invariants. No program in sight. Conditions: valid code.
-/
import Derived.Test.YtjlnaiifegjneaaPure6
namespace Go.Proofs.Ytjlnaiifegjneaa

/-- In a pass, at the head of a row. -/
structure PInv (c : LCode) (m : List (List Bool)) (p0 : Nat) (ch : Bool) (i : Nat) : Prop where
  low : Low c m
  cov : ch = false → ∀ j : Nat, j < i → covAt c m j = true
  le : pot m ≤ p0
  lt : ch = true → pot m < p0

/-- In a row, at the head of one that follows. -/
structure KInv (c : LCode) (m : List (List Bool)) (p0 : Nat) (ch : Bool) (i : Nat) (t : List Bool) (ns : List Int) (j : Nat) : Prop where
  low : Low c m
  cov : ch = false → (∀ j : Nat, j < i → covAt c m j = true) ∧ afterF c (insAt c i) (rowAt m i) = t ∧ ∀ y ∈ ns.take j, covF t (rowAt m y) = true
  le : pot m ≤ p0
  lt : ch = true → pot m < p0
  bnd : ∀ p, isPre c p → ∀ y ∈ ns, (rowAt p y).length ≠ 0 ∧ rle t (rowAt p y)
  tl : t.length = 14

/-- In one that follows, at the head of a bit. -/
structure BInv (c : LCode) (m : List (List Bool)) (p0 : Nat) (ch : Bool) (i : Nat) (t : List Bool) (ns : List Int) (j y q : Nat) : Prop extends KInv c m p0 ch i t ns j where
  row : (rowAt m y).length = 14
  bits : ch = false → ∀ k : Nat, k < q → t.getD k false = true → (rowAt m y).getD k false = true

theorem PInv.start {c : LCode} {m : List (List Bool)} (h : Low c m) : PInv c m (pot m) false 0 := ⟨h, fun _ j hj => by omega, Nat.le_refl _, fun h => by cases h⟩
theorem PInv.done {c : LCode} {m : List (List Bool)} {p0 i : Nat} (h : PInv c m p0 false i) (hi : m.length ≤ i) : isLeast c m := h.low.least fun j hj => h.cov rfl j (by omega)
theorem PInv.skip {c : LCode} {m : List (List Bool)} {p0 i : Nat} {ch : Bool} (h : PInv c m p0 ch i) (h0 : (rowAt m i).length = 0) : PInv c m p0 ch (i + 1) := by
  refine ⟨h.low, fun g j hj => ?_, h.le, h.lt⟩
  rcases Nat.lt_or_ge j i with h1 | h1
  · exact h.cov g j h1
  · obtain rfl : j = i := by omega
    unfold covAt
    rw [h0]; rfl
theorem PInv.enter {c : LCode} {m : List (List Bool)} {p0 i : Nat} {ch : Bool} (h : PInv c m p0 ch i) (hi : i < m.length) (h14 : (rowAt m i).length = 14) {ns : List Int} (hns : ∀ y, y ∈ ns ↔ y ∈ nx c i) : KInv c m p0 ch i (afterF c (insAt c i) (rowAt m i)) ns 0 :=
  ⟨h.low, fun g => ⟨h.cov g, rfl, by simp⟩, h.le, h.lt, fun p hp y hy => h.low.after hi h14 p hp y ((hns y).1 hy), by rw [afterF_len]; exact h14⟩
theorem KInv.done {c : LCode} {m : List (List Bool)} {p0 i j : Nat} {ch : Bool} {t : List Bool} {ns : List Int} (h : KInv c m p0 ch i t ns j) (hj : ns.length ≤ j) (hns : ∀ y, y ∈ ns ↔ y ∈ nx c i) : PInv c m p0 ch (i + 1) := by
  refine ⟨h.low, fun g k hk => ?_, h.le, h.lt⟩
  obtain ⟨g1, g2, g3⟩ := h.cov g
  rcases Nat.lt_or_ge k i with h1 | h1
  · exact g1 k h1
  · obtain rfl : k = i := by omega
    rw [List.take_of_length_le hj] at g3
    unfold covAt
    rw [Bool.or_eq_true]
    right
    rw [List.all_eq_true, g2]
    exact fun y hy => g3 y ((hns y).2 hy)

theorem KInv.bits {c : LCode} {m : List (List Bool)} {p0 i j y : Nat} {ch : Bool} {t : List Bool} {ns : List Int} (h : KInv c m p0 ch i t ns j) (h14 : (rowAt m y).length = 14) : BInv c m p0 ch i t ns j y 0 :=
  ⟨h, h14, fun _ k hk => by omega⟩
/-- A row comes to be. -/
theorem KInv.fresh {c : LCode} {m : List (List Bool)} {p0 i j y : Nat} {ch : Bool} {t : List Bool} {ns : List Int} (h : KInv c m p0 ch i t ns j) (hj : j < ns.length) (hy : ns[j] = (y : Int)) (hym : y < m.length) (h0 : (rowAt m y).length = 0) :
    BInv c (m.set y (List.replicate 14 false)) p0 true i t ns j y 0 := by
  have hf : ∀ k : Nat, (List.replicate 14 false).getD k false = false := by
    intro k
    simp only [List.getD_eq_getElem?_getD, List.getElem?_replicate]
    split <;> rfl
  have hp := pot_set m y (List.replicate 14 false) hym
  rw [← rowAt_nat hym] at hp
  have e1 : rpot (rowAt m y) = 15 := by unfold rpot; rw [if_pos h0]
  have e2 : rpot (List.replicate 14 false) = 14 := by rfl
  rw [e1, e2] at hp
  have hle := h.le
  refine ⟨⟨?_, (fun g => by cases g), by omega, fun _ => by omega, h.bnd, h.tl⟩, ?_, (fun g => by cases g)⟩
  · refine h.low.set hym (by simp) fun p hpp => ⟨(h.bnd p hpp y (by rw [← hy]; exact List.getElem_mem hj)).1, fun k hk => ?_⟩
    rw [hf k] at hk
    cases hk
  · rw [rowAt_set _ _ hym, if_pos (by simp)]; simp
theorem BInv.keep {c : LCode} {m : List (List Bool)} {p0 i j y q : Nat} {ch : Bool} {t : List Bool} {ns : List Int} (h : BInv c m p0 ch i t ns j y q) (hq : t.getD q false = true → (rowAt m y).getD q false = true) : BInv c m p0 ch i t ns j y (q + 1) := by
  refine ⟨h.toKInv, h.row, fun g k hk ht => ?_⟩
  rcases Nat.lt_or_ge k q with h1 | h1
  · exact h.bits g k h1 ht
  · obtain rfl : k = q := by omega
    exact hq ht
/-- A bit comes to be. -/
theorem BInv.put {c : LCode} {m : List (List Bool)} {p0 i j y q : Nat} {ch : Bool} {t : List Bool} {ns : List Int} (h : BInv c m p0 ch i t ns j y q) (hj : j < ns.length) (hy : ns[j] = (y : Int)) (hym : y < m.length) (hq : q < 14) (h1 : t.getD q false = true) (h0 : (rowAt m y).getD q false = false) :
    BInv c (m.set y ((rowAt m y).set q true)) p0 true i t ns j y (q + 1) := by
  have hl := h.row
  have hp := pot_set m y ((rowAt m y).set q true) hym
  rw [← rowAt_nat hym] at hp
  have hb : (rowAt m y)[q]? = some false := by
    rw [List.getD_eq_getElem?_getD] at h0
    rw [List.getElem?_eq_getElem (by omega)] at h0 ⊢
    simpa using h0
  have e1 : rpot (rowAt m y) = (rowAt m y).count false := by unfold rpot; rw [if_neg (by omega)]
  have e2 : rpot ((rowAt m y).set q true) = ((rowAt m y).set q true).count false := by unfold rpot; rw [if_neg (by rw [List.length_set]; omega)]
  have e3 := count_set hb
  rw [e1, e2] at hp
  have hle := h.le
  refine ⟨⟨?_, (fun g => by cases g), by omega, fun _ => by omega, h.bnd, h.tl⟩, ?_, (fun g => by cases g)⟩
  · refine h.low.set hym (by rw [List.length_set]; exact hl) fun p hpp => ?_
    have hb := h.bnd p hpp y (by rw [← hy]; exact List.getElem_mem hj)
    refine ⟨hb.1, fun k hk => ?_⟩
    rw [getD_set] at hk
    split at hk
    · rename_i e
      rw [e.1]
      exact hb.2 q h1
    · rcases h.low.low p hpp y with h2 | h2
      · omega
      · exact h2.2 k hk
  · rw [rowAt_set _ _ hym, if_pos (by simp), List.length_set]; exact hl
theorem BInv.done {c : LCode} {m : List (List Bool)} {p0 i j y q : Nat} {ch : Bool} {t : List Bool} {ns : List Int} (h : BInv c m p0 ch i t ns j y q) (hj : j < ns.length) (hy : ns[j] = (y : Int)) (hq : 14 ≤ q) : KInv c m p0 ch i t ns (j + 1) := by
  refine ⟨h.low, fun g => ?_, h.le, h.lt, h.bnd, h.tl⟩
  obtain ⟨g1, g2, g3⟩ := h.cov g
  refine ⟨g1, g2, fun z hz => ?_⟩
  rw [p_take_succ _ _ hj, List.mem_append, List.mem_singleton] at hz
  rcases hz with hz | hz
  · exact g3 z hz
  · rw [hz, hy, covF_iff]
    refine ⟨by have := h.row; omega, fun k hk => ?_⟩
    rcases Nat.lt_or_ge k 14 with h1 | h1
    · exact h.bits g k (by omega) hk
    · have := h.tl
      simp [show t.length ≤ k by omega] at hk

end Go.Proofs.Ytjlnaiifegjneaa
