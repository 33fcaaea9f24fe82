/-
  The laws' helpers on slices of ints, a contract each. Conditions: the arguments are slices of ints.
-/
import Derived.Test.YtooifghhgnlcoaaDoorRows
import Derived.Test.YtooifghhgnlcoaaDoorLib
import Derived.Deep.QuietTactic
import Derived.BigQuiet
namespace Go.Proofs.YtooifghhgnlcoaaDoor
set_option linter.unusedVariables false
set_option linter.unusedSimpArgs false
open Go Go.RowKit

abbrev ints (l : List Int) : List Value := l.map (Value.int .i64)

theorem ints_get (l : List Int) (k : Nat) (h : k < l.length) : (ints l)[k]? = some (.int .i64 l[k]) := by simp [ints, h]
theorem ints_len (l : List Int) : (ints l).length = l.length := by simp [ints]
theorem infoI : (Tryd.prog.info? 3).map (fun i => (i.zero, i.size, i.bytes)) = some (some (.int .i64 0), 1, 8) := by kernel_rfl




/-- The marks from K on. -/
def marksI (K n : Nat) : List Int := (List.range n).map fun (j : Nat) => ((K : Int) + (j : Int))
theorem marksI_len (K n : Nat) : (marksI K n).length = n := by simp [marksI]
theorem marksI_get (K n j : Nat) (h : j < (marksI K n).length) : (marksI K n)[j] = (K : Int) + (j : Int) := by simp [marksI]



end Go.Proofs.YtooifghhgnlcoaaDoor
