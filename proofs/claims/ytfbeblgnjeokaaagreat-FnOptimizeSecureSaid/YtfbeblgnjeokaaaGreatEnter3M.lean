/-
  The program's make (a text of its own: the kernel wants 8 GB for it). Conditions: none.
-/
import Derived.Test.YtfbeblgnjeokaaaGreatK2
set_option maxRecDepth 100000
set_option maxHeartbeats 16000000
set_option linter.unusedVariables false
set_option linter.unusedSimpArgs false
open Bool renaming true → V, false → U
open Option renaming some → Z, none → I
open Decidable renaming decide → Y
namespace Go.Proofs.YtfbeblgnjeokaaaGreat
open Go Go.RowKit Go.ChangeShapes Go.WideShapes Go.ChangeAt
theorem l6:Tryz.pinned.checked.prog.make=Z Rows.fnVerifyReleaseRow.make:=by kernel_rfl
end Go.Proofs.YtfbeblgnjeokaaaGreat
