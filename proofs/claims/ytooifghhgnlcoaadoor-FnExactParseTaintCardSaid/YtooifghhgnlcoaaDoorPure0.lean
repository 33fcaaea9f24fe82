/-
  Instructions and code as plain data; when code is valid. No program in sight. Conditions: none.
-/
namespace Go.Proofs.YtooifghhgnlcoaaDoor
set_option linter.unusedVariables false
set_option linter.unusedSimpArgs false

theorem p_take_succ {α : Type} (l : List α) (k : Nat) (h : k < l.length) : l.take (k + 1) = l.take k ++ [l[k]] := by
  rw [List.take_succ_eq_append_getElem h]
theorem all_take_succ {α : Type} (p : α → Bool) (l : List α) (k : Nat) (h : k < l.length) : (l.take (k + 1)).all p = ((l.take k).all p && p l[k]) := by
  rw [p_take_succ l k h, List.all_append]; simp
theorem not_all {α : Type} {p : α → Bool} {l : List α} {k : Nat} (h : k < l.length) (hp : p l[k] = false) : l.all p = false := by
  rw [List.all_eq_false]; exact ⟨l[k], List.getElem_mem h, by simp [hp]⟩

/-- An instruction. -/
structure LIns where
  op : Int
  a : Int
  b : Int
  c : Int
  d : Int

def LIns.l (x : LIns) : List Int := [x.op, x.a, x.b, x.c, x.d]
/-- The fields of a list of instructions, one behind the other. -/
def insF : List LIns → List Int
  | [] => []
  | x :: r => x.op :: x.a :: x.b :: x.c :: x.d :: insF r

theorem insF_len (l : List LIns) : (insF l).length = l.length * 5 := by
  induction l with
  | nil => rfl
  | cons x r ih => simp [insF, ih]; omega
theorem LIns.ext' {x y : LIns} (h : x.l = y.l) : x = y := by
  cases x; cases y; simp [LIns.l] at h; simp [h]
theorem insF_inj : ∀ {l m : List LIns}, insF l = insF m → l = m
  | [], [], _ => rfl
  | [], _ :: _, h => by simp [insF] at h
  | _ :: _, [], h => by simp [insF] at h
  | x :: r, y :: s, h => by
    simp only [insF, List.cons.injEq] at h
    obtain ⟨h1, h2, h3, h4, h5, h6⟩ := h
    rw [insF_inj h6, LIns.ext' (x := x) (y := y) (by simp [LIns.l, h1, h2, h3, h4, h5])]
theorem insF_append (l m : List LIns) : insF (l ++ m) = insF l ++ insF m := by
  induction l with
  | nil => rfl
  | cons x r ih => simp [insF, ih]
theorem insF_take (l : List LIns) (k : Nat) : insF (l.take k) = (insF l).take (k * 5) := by
  induction l generalizing k with
  | nil => simp [insF]
  | cons x r ih =>
    cases k with
    | zero => simp [insF]
    | succ k => rw [Nat.succ_mul]; simp [insF, ih]
theorem insF_get (l : List LIns) (i : Nat) (hi : i < l.length) : (insF l)[i * 5]? = some l[i].op ∧ (insF l)[i * 5 + 1]? = some l[i].a ∧ (insF l)[i * 5 + 2]? = some l[i].b ∧ (insF l)[i * 5 + 3]? = some l[i].c ∧ (insF l)[i * 5 + 4]? = some l[i].d := by
  induction l generalizing i with
  | nil => simp at hi
  | cons x r ih =>
    cases i with
    | zero => simp [insF]
    | succ i =>
      rw [Nat.succ_mul]
      have := ih i (by simpa using hi)
      simpa [insF, Nat.add_assoc] using this

structure LCode where
  vars : List Int
  arrays : List Int
  list : List LIns

/-- How much code takes. -/
def LCode.size (c : LCode) : Nat := c.vars.length + c.arrays.length + c.list.length

/-- Two codes are one, field by field. -/
def LCode.same (c d : LCode) : Bool := decide (c.vars = d.vars) && decide (c.arrays = d.arrays) && decide (insF c.list = insF d.list)
theorem LCode.same_eq {c d : LCode} : c.same d = true ↔ c = d := by
  cases c; cases d
  simp only [LCode.same, Bool.and_eq_true, decide_eq_true_eq, LCode.mk.injEq]
  constructor
  · rintro ⟨⟨rfl, rfl⟩, h⟩; exact ⟨rfl, rfl, insF_inj h⟩
  · rintro ⟨rfl, rfl, rfl⟩; exact ⟨⟨rfl, rfl⟩, rfl⟩
theorem LCode.same_refl (c : LCode) : c.same c = true := LCode.same_eq.2 rfl

end Go.Proofs.YtooifghhgnlcoaaDoor
