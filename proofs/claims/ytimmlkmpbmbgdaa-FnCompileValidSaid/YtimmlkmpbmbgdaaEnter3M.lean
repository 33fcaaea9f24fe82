/-
  The program's make (a text of its own: the kernel wants 8 GB for it). Conditions: none.
-/
import Derived.Test.YtimmlkmpbmbgdaaK1
namespace Go.Proofs.Ytimmlkmpbmbgdaa
set_option linter.unusedVariables false
set_option linter.unusedSimpArgs false
open Go Go.RowKit Go.ChangeShapes Go.WideShapes Go.ChangeAt

theorem make_is : Try.pinned.checked.prog.make = some Rows.fnExactCompileMapRow.make := by kernel_rfl
end Go.Proofs.Ytimmlkmpbmbgdaa
