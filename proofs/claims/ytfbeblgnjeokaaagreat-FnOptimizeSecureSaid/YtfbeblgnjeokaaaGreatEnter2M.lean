/-
  The program's first words: nothing is lifted at the end (a text of its own: the kernel wants 8 GB for it). Conditions: none.
-/
import Derived.Test.YtfbeblgnjeokaaaGreatK2
set_option maxRecDepth 100000
set_option maxHeartbeats 16000000
set_option linter.unusedVariables false
set_option linter.unusedSimpArgs false
namespace Go.Proofs.YtfbeblgnjeokaaaGreat
open Go Go.RowKit Go.ChangeShapes Go.WideShapes Go.ChangeAt
theorem L5:Tryz.pinned.checked.prog.liftsFinal=false:=by kernel_rfl
end Go.Proofs.YtfbeblgnjeokaaaGreat
