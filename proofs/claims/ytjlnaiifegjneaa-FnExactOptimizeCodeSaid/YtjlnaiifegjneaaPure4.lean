/-
  Taint maps of code: what a row amounts to, where the first result lies, what a map must fulfil. No program in sight. Conditions: none.
-/
import Derived.Test.YtjlnaiifegjneaaPure3
namespace Go.Proofs.Ytjlnaiifegjneaa

/-- A row is empty or of 14 bits. -/
def rowOk (r : List Bool) : Bool := decide (r.length = 0) || decide (r.length = 14)
def covUpto (t row : List Bool) (k : Nat) : Bool := (List.range k).all fun j => !(t.getD j false && !row.getD j false)
theorem covUpto_succ (t row : List Bool) (k : Nat) : covUpto t row (k + 1) = (covUpto t row k && !(t.getD k false && !row.getD k false)) := by
  unfold covUpto; rw [List.range_succ, List.all_append]; simp
theorem covUpto_not {t row : List Bool} {k : Nat} (n : Nat) (hk : k < n) (h1 : t.getD k false = true) (h2 : row.getD k false = false) : covUpto t row n = false := by
  unfold covUpto
  rw [Bool.eq_false_iff]
  intro h
  have := List.all_eq_true.1 h k (List.mem_range.2 hk)
  rw [h1, h2] at this
  simp at this

def rowAt (m : List (List Bool)) (i : Int) : List Bool := m.getD i.toNat []
theorem rowAt_nat {m : List (List Bool)} {i : Nat} (h : i < m.length) : rowAt m i = m[i] := by simp [rowAt, h]
def insAt (c : LCode) (i : Nat) : LIns := c.list.getD i ⟨0, 0, 0, 0, 0⟩
theorem insAt_get {c : LCode} {i : Nat} (h : i < c.list.length) : insAt c i = c.list[i] := by simp [insAt, h]

/-- An instruction with a row amounts to something. -/
def badAt (c : LCode) (m : List (List Bool)) (i : Nat) : Bool := decide (0 < (rowAt m i).length) && decide (ownF c (insAt c i) (rowAt m i) ≠ 0)
def firstF (c : LCode) (m : List (List Bool)) : Int × Int := match (List.range m.length).find? (badAt c m) with | some i => (ownF c (insAt c i) (rowAt m i), (i : Int)) | none => (0, -1)
def badPre (c : LCode) (m : List (List Bool)) (k : Nat) : Bool := (List.range k).any (badAt c m)
theorem badPre_succ (c : LCode) (m : List (List Bool)) (k : Nat) : badPre c m (k + 1) = (badPre c m k || badAt c m k) := by
  unfold badPre; rw [List.range_succ, List.any_append]; simp
theorem firstF_none {c : LCode} {m : List (List Bool)} (h : badPre c m m.length = false) : firstF c m = (0, -1) := by
  unfold firstF
  have : (List.range m.length).find? (badAt c m) = none := by
    rw [List.find?_eq_none]
    intro x hx hb
    have := List.any_eq_false.1 h x hx
    exact this hb
  rw [this]
theorem firstF_some {c : LCode} {m : List (List Bool)} {k : Nat} (hk : k < m.length) (h : badPre c m k = false) (hb : badAt c m k = true) : firstF c m = (ownF c (insAt c k) (rowAt m k), (k : Int)) := by
  unfold firstF
  have : (List.range m.length).find? (badAt c m) = some k := by
    rw [List.find?_range_eq_some]
    refine ⟨hb, List.mem_range.2 hk, fun j hj => ?_⟩
    have := List.any_eq_false.1 h j (List.mem_range.2 hj)
    simpa using this
  rw [this]
theorem firstF_zero (c : LCode) (m : List (List Bool)) : decide ((firstF c m).1 = 0) = !badPre c m m.length := by
  cases hb : badPre c m m.length
  · rw [firstF_none hb]; rfl
  · unfold firstF
    split
    · rename_i i hi
      rw [List.find?_range_eq_some] at hi
      have := hi.1
      simp only [badAt, Bool.and_eq_true, decide_eq_true_eq] at this
      simp [this.2]
    · rename_i hi
      rw [List.find?_eq_none] at hi
      obtain ⟨x, hx, hy⟩ := List.any_eq_true.1 hb
      exact absurd hy (hi x hx)

/-- The rows that follow cover what stands behind an instruction. -/
def covAt (c : LCode) (m : List (List Bool)) (i : Nat) : Bool := decide ((rowAt m i).length = 0) || (nx c i).all fun t => covF (afterF c (insAt c i) (rowAt m i)) (rowAt m t)
def covPre (c : LCode) (m : List (List Bool)) (k : Nat) : Bool := (List.range k).all (covAt c m)
theorem covPre_succ (c : LCode) (m : List (List Bool)) (k : Nat) : covPre c m (k + 1) = (covPre c m k && covAt c m k) := by
  unfold covPre; rw [List.range_succ, List.all_append]; simp
theorem covPre_not {c : LCode} {m : List (List Bool)} {k : Nat} (n : Nat) (hk : k < n) (h : covAt c m k = false) : covPre c m n = false := by
  unfold covPre
  rw [Bool.eq_false_iff]
  intro hh
  rw [List.all_eq_true.1 hh k (List.mem_range.2 hk)] at h
  cases h
theorem badPre_not {c : LCode} {m : List (List Bool)} {k : Nat} (n : Nat) (hk : k < n) (h : badAt c m k = true) : badPre c m n = true := List.any_eq_true.2 ⟨k, List.mem_range.2 hk, h⟩

def headT (c : LCode) (m : List (List Bool)) : Bool := codeOk c && decide (m.length = c.list.length) && decide (0 < (rowAt m 0).length)
def chkT (c : LCode) (m : List (List Bool)) : Bool := headT c m && m.all rowOk && !badPre c m m.length && covPre c m m.length
theorem rowOk_len {m : List (List Bool)} (h : m.all rowOk = true) (i : Int) : (rowAt m i).length = 0 ∨ (rowAt m i).length = 14 := by
  unfold rowAt
  rcases Nat.lt_or_ge i.toNat m.length with h1 | h1
  · have := List.all_eq_true.1 h _ (List.getElem_mem h1)
    simp only [rowOk, Bool.or_eq_true, decide_eq_true_eq] at this
    simpa [h1] using this
  · left; simp [h1]

end Go.Proofs.Ytjlnaiifegjneaa
