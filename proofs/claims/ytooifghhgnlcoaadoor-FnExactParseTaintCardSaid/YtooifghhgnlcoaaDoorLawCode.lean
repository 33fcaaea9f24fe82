/-
  The laws' helpers on code (two slices of ints, a slice of instructions), a contract each. Conditions: the arguments are code.
-/
import Derived.Test.YtooifghhgnlcoaaDoorLawIns
namespace Go.Proofs.YtooifghhgnlcoaaDoor
set_option linter.unusedVariables false
set_option linter.unusedSimpArgs false
open Go Go.RowKit

def CodeRow (w : World) (v : Value) (c : LCode) : Prop :=
  ∃ v1 v2 v3, v = .agg #[v1, v2, v3] ∧ Row w v1 c.vars.length 1 (ints c.vars) ∧ Row w v2 c.arrays.length 1 (ints c.arrays) ∧ InsRow w v3 c.list


theorem CodeRow.below {w w' : World} {v : Value} {c : LCode} (h : CodeRow w v c) (hb : Below w.heap.size w w') : CodeRow w' v c := by
  obtain ⟨v1, v2, v3, rfl, h1, h2, h3⟩ := h
  exact ⟨v1, v2, v3, rfl, h1.below hb, h2.below hb, h3.below hb⟩







/-- Two values do not lie in one block. -/
def CodeMarks (w : World) (v : Value) (K nv na nl : Nat) : Prop :=
  ∃ v1 v2 v3, v = .agg #[v1, v2, v3] ∧ Row w v1 nv 1 (ints (marksI K nv)) ∧ Row w v2 na 1 (ints (marksI (K + nv) na)) ∧ Row w v3 nl 5 (ints (marksI (K + nv + na) (nl * 5)))
theorem CodeMarks.below {w w' : World} {v : Value} {K nv na nl : Nat} (h : CodeMarks w v K nv na nl) (hb : Below w.heap.size w w') : CodeMarks w' v K nv na nl := by
  obtain ⟨v1, v2, v3, rfl, h1, h2, h3⟩ := h
  exact ⟨v1, v2, v3, rfl, h1.below hb, h2.below hb, h3.below hb⟩



end Go.Proofs.YtooifghhgnlcoaaDoor
