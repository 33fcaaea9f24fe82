/-
  NARROWER THAN 'FOR EVERY INPUT', by the rows' own cells (each row's printed sentence says how): FnExactCompileMap: loops · FnExactCompileProgram: loops.
  DERIVED. THE GIVEN ROWS OF THIS SEAT. 12 by the template 'for every input the law returns true; each argument reads behind the call as it read before'; 0 by the template 'total and deterministic' (their statements: YtimmlkmpbmbgdaaTotals.lean).
  GIVEN WITH THE SEED: the statements are not yours to turn. If you find one false, say at which input.
  Laid BY PROGRAM, IN A SANDBOX (cutbox-rows.mjs): the forced cells as the released guide's own fill.sh prints them over the translation 5092ab07c2ebfdd1… (all of the seat's roots in one cut). By AI agents, Wed Nov 11 2026. No macro, syntax, notation, axiom, sorry.
-/
import Derived.Test.YtimmlkmpbmbgdaaChecked
import GoSem.Claim
import GoSem.ClaimJoined
import GoSem.ClaimMapViews
import Derived.JoinedTies
import Derived.KernelRfl
namespace Go.Proofs.Ytimmlkmpbmbgdaa
/- THE CELL 'sum', in the pinned program and in every row, IS THE sha256 OF THE DUMP (.gsa) THAT YtimmlkmpbmbgdaaProg.lean LOADS. Nothing in Lean hashes anything: it is a label: what it is worth is what the hold of that sum in a sandbox is worth. -/
noncomputable def Try.pinned : Pinned := { name := "ytimmlkmpbmbgdaa", sum := "5092ab07c2ebfdd199fc535f228b5919ae821cd9e4f818ed9cd8ba5c7a84832a", checked := Try.checked }
namespace Rows
def none {H : Type} : Left H := { results := [], args := [] }

/-- 'laws.FnExactCompileMap': WHATEVER THE INPUT: true; the input reads as it did. -/
def fnExactCompileMapSpec : ChangeSpec := { name := "fnExactCompileMap", fn := fun _ => fun
  | [d] => { results := [.lit (.bool true)], args := [d] }
  | _ => none }
def fnExactCompileMapRow : OpenClaim := { program := "ytimmlkmpbmbgdaa", sum := "5092ab07c2ebfdd199fc535f228b5919ae821cd9e4f818ed9cd8ba5c7a84832a", func := "loop.example/constanttime/laws.FnExactCompileMap", spec := "fnExactCompileMap", unfollowed := true, recurses := true, loops := true, apart := false }
def FnExactCompileMapSaid : Prop := fnExactCompileMapRow.holds Try.pinned (OpenSpec.ofChange fnExactCompileMapSpec)

/-- ITS FALSE NEIGHBOUR: 'it returns false'. Refute it at one input. -/
def fnExactCompileMapWrong : ChangeSpec := { name := "fnExactCompileMap", fn := fun _ => fun
  | [d] => { results := [.lit (.bool false)], args := [d] }
  | _ => none }
def FnExactCompileMapWrongFalsely : Prop := fnExactCompileMapRow.holds Try.pinned (OpenSpec.ofChange fnExactCompileMapWrong)

/-- 'laws.FnExactCompileProgram': WHATEVER THE INPUT: true; the input reads as it did. -/
def fnExactCompileProgramSpec : ChangeSpec := { name := "fnExactCompileProgram", fn := fun _ => fun
  | [d] => { results := [.lit (.bool true)], args := [d] }
  | _ => none }
def fnExactCompileProgramRow : OpenClaim := { program := "ytimmlkmpbmbgdaa", sum := "5092ab07c2ebfdd199fc535f228b5919ae821cd9e4f818ed9cd8ba5c7a84832a", func := "loop.example/constanttime/laws.FnExactCompileProgram", spec := "fnExactCompileProgram", unfollowed := true, recurses := true, loops := true, apart := false }
def FnExactCompileProgramSaid : Prop := fnExactCompileProgramRow.holds Try.pinned (OpenSpec.ofChange fnExactCompileProgramSpec)

/-- ITS FALSE NEIGHBOUR: 'it returns false'. Refute it at one input. -/
def fnExactCompileProgramWrong : ChangeSpec := { name := "fnExactCompileProgram", fn := fun _ => fun
  | [d] => { results := [.lit (.bool false)], args := [d] }
  | _ => none }
def FnExactCompileProgramWrongFalsely : Prop := fnExactCompileProgramRow.holds Try.pinned (OpenSpec.ofChange fnExactCompileProgramWrong)

/-- 'laws.FnCompileMap': WHATEVER THE INPUT: true; the input reads as it did. -/
def fnCompileMapSpec : ChangeSpec := { name := "fnCompileMap", fn := fun _ => fun
  | [d] => { results := [.lit (.bool true)], args := [d] }
  | _ => none }
def fnCompileMapRow : OpenClaim := { program := "ytimmlkmpbmbgdaa", sum := "5092ab07c2ebfdd199fc535f228b5919ae821cd9e4f818ed9cd8ba5c7a84832a", func := "loop.example/constanttime/laws.FnCompileMap", spec := "fnCompileMap", unfollowed := true, recurses := true, apart := false }
def FnCompileMapSaid : Prop := fnCompileMapRow.holds Try.pinned (OpenSpec.ofChange fnCompileMapSpec)

/-- ITS FALSE NEIGHBOUR: 'it returns false'. Refute it at one input. -/
def fnCompileMapWrong : ChangeSpec := { name := "fnCompileMap", fn := fun _ => fun
  | [d] => { results := [.lit (.bool false)], args := [d] }
  | _ => none }
def FnCompileMapWrongFalsely : Prop := fnCompileMapRow.holds Try.pinned (OpenSpec.ofChange fnCompileMapWrong)

/-- 'laws.FnCompileValid': WHATEVER THE INPUT: true; the input reads as it did. -/
def fnCompileValidSpec : ChangeSpec := { name := "fnCompileValid", fn := fun _ => fun
  | [d] => { results := [.lit (.bool true)], args := [d] }
  | _ => none }
def fnCompileValidRow : OpenClaim := { program := "ytimmlkmpbmbgdaa", sum := "5092ab07c2ebfdd199fc535f228b5919ae821cd9e4f818ed9cd8ba5c7a84832a", func := "loop.example/constanttime/laws.FnCompileValid", spec := "fnCompileValid", unfollowed := true, recurses := true, apart := false }
def FnCompileValidSaid : Prop := fnCompileValidRow.holds Try.pinned (OpenSpec.ofChange fnCompileValidSpec)

/-- ITS FALSE NEIGHBOUR: 'it returns false'. Refute it at one input. -/
def fnCompileValidWrong : ChangeSpec := { name := "fnCompileValid", fn := fun _ => fun
  | [d] => { results := [.lit (.bool false)], args := [d] }
  | _ => none }
def FnCompileValidWrongFalsely : Prop := fnCompileValidRow.holds Try.pinned (OpenSpec.ofChange fnCompileValidWrong)

/-- 'laws.FnCheckFlow': WHATEVER THE INPUT: true; the input reads as it did. -/
def fnCheckFlowSpec : ChangeSpec := { name := "fnCheckFlow", fn := fun _ => fun
  | [d] => { results := [.lit (.bool true)], args := [d] }
  | _ => none }
def fnCheckFlowRow : OpenClaim := { program := "ytimmlkmpbmbgdaa", sum := "5092ab07c2ebfdd199fc535f228b5919ae821cd9e4f818ed9cd8ba5c7a84832a", func := "loop.example/constanttime/laws.FnCheckFlow", spec := "fnCheckFlow", unfollowed := true, recurses := true, apart := false }
def FnCheckFlowSaid : Prop := fnCheckFlowRow.holds Try.pinned (OpenSpec.ofChange fnCheckFlowSpec)

/-- ITS FALSE NEIGHBOUR: 'it returns false'. Refute it at one input. -/
def fnCheckFlowWrong : ChangeSpec := { name := "fnCheckFlow", fn := fun _ => fun
  | [d] => { results := [.lit (.bool false)], args := [d] }
  | _ => none }
def FnCheckFlowWrongFalsely : Prop := fnCheckFlowRow.holds Try.pinned (OpenSpec.ofChange fnCheckFlowWrong)

/-- 'laws.FnCheckPrefix': WHATEVER THE INPUT: true; the input reads as it did. -/
def fnCheckPrefixSpec : ChangeSpec := { name := "fnCheckPrefix", fn := fun _ => fun
  | [d1, d2] => { results := [.lit (.bool true)], args := [d1, d2] }
  | _ => none }
def fnCheckPrefixRow : OpenClaim := { program := "ytimmlkmpbmbgdaa", sum := "5092ab07c2ebfdd199fc535f228b5919ae821cd9e4f818ed9cd8ba5c7a84832a", func := "loop.example/constanttime/laws.FnCheckPrefix", spec := "fnCheckPrefix", unfollowed := true, recurses := true, apart := false }
def FnCheckPrefixSaid : Prop := fnCheckPrefixRow.holds Try.pinned (OpenSpec.ofChange fnCheckPrefixSpec)

/-- ITS FALSE NEIGHBOUR: 'it returns false'. Refute it at one input. -/
def fnCheckPrefixWrong : ChangeSpec := { name := "fnCheckPrefix", fn := fun _ => fun
  | [d1, d2] => { results := [.lit (.bool false)], args := [d1, d2] }
  | _ => none }
def FnCheckPrefixWrongFalsely : Prop := fnCheckPrefixRow.holds Try.pinned (OpenSpec.ofChange fnCheckPrefixWrong)

/-- 'laws.FnFlowPublic': WHATEVER THE INPUT: true; the input reads as it did. -/
def fnFlowPublicSpec : ChangeSpec := { name := "fnFlowPublic", fn := fun _ => fun
  | [d] => { results := [.lit (.bool true)], args := [d] }
  | _ => none }
def fnFlowPublicRow : OpenClaim := { program := "ytimmlkmpbmbgdaa", sum := "5092ab07c2ebfdd199fc535f228b5919ae821cd9e4f818ed9cd8ba5c7a84832a", func := "loop.example/constanttime/laws.FnFlowPublic", spec := "fnFlowPublic", unfollowed := true, recurses := true, apart := false }
def FnFlowPublicSaid : Prop := fnFlowPublicRow.holds Try.pinned (OpenSpec.ofChange fnFlowPublicSpec)

/-- ITS FALSE NEIGHBOUR: 'it returns false'. Refute it at one input. -/
def fnFlowPublicWrong : ChangeSpec := { name := "fnFlowPublic", fn := fun _ => fun
  | [d] => { results := [.lit (.bool false)], args := [d] }
  | _ => none }
def FnFlowPublicWrongFalsely : Prop := fnFlowPublicRow.holds Try.pinned (OpenSpec.ofChange fnFlowPublicWrong)

/-- 'laws.FnFlowBranch': WHATEVER THE INPUT: true; the input reads as it did. -/
def fnFlowBranchSpec : ChangeSpec := { name := "fnFlowBranch", fn := fun _ => fun
  | [d1, d2] => { results := [.lit (.bool true)], args := [d1, d2] }
  | _ => none }
def fnFlowBranchRow : OpenClaim := { program := "ytimmlkmpbmbgdaa", sum := "5092ab07c2ebfdd199fc535f228b5919ae821cd9e4f818ed9cd8ba5c7a84832a", func := "loop.example/constanttime/laws.FnFlowBranch", spec := "fnFlowBranch", unfollowed := true, recurses := true, apart := false }
def FnFlowBranchSaid : Prop := fnFlowBranchRow.holds Try.pinned (OpenSpec.ofChange fnFlowBranchSpec)

/-- ITS FALSE NEIGHBOUR: 'it returns false'. Refute it at one input. -/
def fnFlowBranchWrong : ChangeSpec := { name := "fnFlowBranch", fn := fun _ => fun
  | [d1, d2] => { results := [.lit (.bool false)], args := [d1, d2] }
  | _ => none }
def FnFlowBranchWrongFalsely : Prop := fnFlowBranchRow.holds Try.pinned (OpenSpec.ofChange fnFlowBranchWrong)

/-- 'laws.FnRaiseLabels': WHATEVER THE INPUT: true; the input reads as it did. -/
def fnRaiseLabelsSpec : ChangeSpec := { name := "fnRaiseLabels", fn := fun _ => fun
  | [d] => { results := [.lit (.bool true)], args := [d] }
  | _ => none }
def fnRaiseLabelsRow : OpenClaim := { program := "ytimmlkmpbmbgdaa", sum := "5092ab07c2ebfdd199fc535f228b5919ae821cd9e4f818ed9cd8ba5c7a84832a", func := "loop.example/constanttime/laws.FnRaiseLabels", spec := "fnRaiseLabels", unfollowed := true, recurses := true, apart := false }
def FnRaiseLabelsSaid : Prop := fnRaiseLabelsRow.holds Try.pinned (OpenSpec.ofChange fnRaiseLabelsSpec)

/-- ITS FALSE NEIGHBOUR: 'it returns false'. Refute it at one input. -/
def fnRaiseLabelsWrong : ChangeSpec := { name := "fnRaiseLabels", fn := fun _ => fun
  | [d] => { results := [.lit (.bool false)], args := [d] }
  | _ => none }
def FnRaiseLabelsWrongFalsely : Prop := fnRaiseLabelsRow.holds Try.pinned (OpenSpec.ofChange fnRaiseLabelsWrong)

/-- 'laws.FnFlowTop': WHATEVER THE INPUT: true; the input reads as it did. -/
def fnFlowTopSpec : ChangeSpec := { name := "fnFlowTop", fn := fun _ => fun
  | [d] => { results := [.lit (.bool true)], args := [d] }
  | _ => none }
def fnFlowTopRow : OpenClaim := { program := "ytimmlkmpbmbgdaa", sum := "5092ab07c2ebfdd199fc535f228b5919ae821cd9e4f818ed9cd8ba5c7a84832a", func := "loop.example/constanttime/laws.FnFlowTop", spec := "fnFlowTop", unfollowed := true, recurses := true, apart := false }
def FnFlowTopSaid : Prop := fnFlowTopRow.holds Try.pinned (OpenSpec.ofChange fnFlowTopSpec)

/-- ITS FALSE NEIGHBOUR: 'it returns false'. Refute it at one input. -/
def fnFlowTopWrong : ChangeSpec := { name := "fnFlowTop", fn := fun _ => fun
  | [d] => { results := [.lit (.bool false)], args := [d] }
  | _ => none }
def FnFlowTopWrongFalsely : Prop := fnFlowTopRow.holds Try.pinned (OpenSpec.ofChange fnFlowTopWrong)

/-- 'laws.FnInferLabels': WHATEVER THE INPUT: true; the input reads as it did. -/
def fnInferLabelsSpec : ChangeSpec := { name := "fnInferLabels", fn := fun _ => fun
  | [d] => { results := [.lit (.bool true)], args := [d] }
  | _ => none }
def fnInferLabelsRow : OpenClaim := { program := "ytimmlkmpbmbgdaa", sum := "5092ab07c2ebfdd199fc535f228b5919ae821cd9e4f818ed9cd8ba5c7a84832a", func := "loop.example/constanttime/laws.FnInferLabels", spec := "fnInferLabels", unfollowed := true, recurses := true, apart := false }
def FnInferLabelsSaid : Prop := fnInferLabelsRow.holds Try.pinned (OpenSpec.ofChange fnInferLabelsSpec)

/-- ITS FALSE NEIGHBOUR: 'it returns false'. Refute it at one input. -/
def fnInferLabelsWrong : ChangeSpec := { name := "fnInferLabels", fn := fun _ => fun
  | [d] => { results := [.lit (.bool false)], args := [d] }
  | _ => none }
def FnInferLabelsWrongFalsely : Prop := fnInferLabelsRow.holds Try.pinned (OpenSpec.ofChange fnInferLabelsWrong)

/-- 'laws.FnInferLeast': WHATEVER THE INPUT: true; the input reads as it did. -/
def fnInferLeastSpec : ChangeSpec := { name := "fnInferLeast", fn := fun _ => fun
  | [d1, d2] => { results := [.lit (.bool true)], args := [d1, d2] }
  | _ => none }
def fnInferLeastRow : OpenClaim := { program := "ytimmlkmpbmbgdaa", sum := "5092ab07c2ebfdd199fc535f228b5919ae821cd9e4f818ed9cd8ba5c7a84832a", func := "loop.example/constanttime/laws.FnInferLeast", spec := "fnInferLeast", unfollowed := true, recurses := true, apart := false }
def FnInferLeastSaid : Prop := fnInferLeastRow.holds Try.pinned (OpenSpec.ofChange fnInferLeastSpec)

/-- ITS FALSE NEIGHBOUR: 'it returns false'. Refute it at one input. -/
def fnInferLeastWrong : ChangeSpec := { name := "fnInferLeast", fn := fun _ => fun
  | [d1, d2] => { results := [.lit (.bool false)], args := [d1, d2] }
  | _ => none }
def FnInferLeastWrongFalsely : Prop := fnInferLeastRow.holds Try.pinned (OpenSpec.ofChange fnInferLeastWrong)

/- THE SECOND FORM. 'bulk': how many values and letters a reading holds, each counted each time it is reached (what is shared counts as often as it is met; a slice's spare places count too). A statement '..UptoSaid' is the law's where the arguments, and the package variables that the reading takes, are together of bulk at most 1048576: NARROWER than '..Said'. Prove '..Said' where nothing that the law and all that it calls make is longer than what came in: it says more and counts as full. Else prove '..UptoSaid'. A law counts once. -/
mutual
def uptoBulk {H : Type} : DataW H → Nat
  | .lit (.string bytes) => bytes.length + 1
  | .lit _ => 1
  | .nil => 1
  | .ptr d => uptoBulk d + 1
  | .slice elems spare => uptoBulkAll elems + uptoBulkAll spare + 1
  | .agg parts => uptoBulkAll parts + 1
  | .iface _ d => uptoBulk d + 1
  | .map entries => uptoBulkEntries entries + 1
  | .held _ => 1
def uptoBulkAll {H : Type} : List (DataW H) → Nat
  | [] => 0
  | d :: r => uptoBulk d + uptoBulkAll r
def uptoBulkEntries {H : Type} : List (Lit × DataW H) → Nat
  | [] => 0
  | x :: r => uptoBulkEntry x + uptoBulkEntries r
def uptoBulkEntry {H : Type} : Lit × DataW H → Nat
  | (.string bytes, d) => bytes.length + uptoBulk d + 1
  | (_, d) => uptoBulk d + 1
 end
def uptoSmall : (H : Type) → List (DataW H) → Bool := fun _ ds => decide (uptoBulkAll ds ≤ 1048576)
def OpenSpec.upto (s : _root_.Go.ChangeSpec) : _root_.Go.OpenSpec := { _root_.Go.OpenSpec.ofChange s with cond := some uptoSmall }

/-- 'laws.FnExactCompileMap', WHERE WHAT IT READS IS OF BULK AT MOST 1048576: true; the input reads as it did. -/
def fnExactCompileMapUptoRow : OpenClaim := { program := "ytimmlkmpbmbgdaa", sum := "5092ab07c2ebfdd199fc535f228b5919ae821cd9e4f818ed9cd8ba5c7a84832a", func := "loop.example/constanttime/laws.FnExactCompileMap", spec := "fnExactCompileMap", unfollowed := true, recurses := true, loops := true, apart := false, narrowed := true }
def FnExactCompileMapUptoSaid : Prop := fnExactCompileMapUptoRow.holds Try.pinned (OpenSpec.upto fnExactCompileMapSpec)

/-- 'laws.FnExactCompileProgram', WHERE WHAT IT READS IS OF BULK AT MOST 1048576: true; the input reads as it did. -/
def fnExactCompileProgramUptoRow : OpenClaim := { program := "ytimmlkmpbmbgdaa", sum := "5092ab07c2ebfdd199fc535f228b5919ae821cd9e4f818ed9cd8ba5c7a84832a", func := "loop.example/constanttime/laws.FnExactCompileProgram", spec := "fnExactCompileProgram", unfollowed := true, recurses := true, loops := true, apart := false, narrowed := true }
def FnExactCompileProgramUptoSaid : Prop := fnExactCompileProgramUptoRow.holds Try.pinned (OpenSpec.upto fnExactCompileProgramSpec)

/-- 'laws.FnCompileMap', WHERE WHAT IT READS IS OF BULK AT MOST 1048576: true; the input reads as it did. -/
def fnCompileMapUptoRow : OpenClaim := { program := "ytimmlkmpbmbgdaa", sum := "5092ab07c2ebfdd199fc535f228b5919ae821cd9e4f818ed9cd8ba5c7a84832a", func := "loop.example/constanttime/laws.FnCompileMap", spec := "fnCompileMap", unfollowed := true, recurses := true, apart := false, narrowed := true }
def FnCompileMapUptoSaid : Prop := fnCompileMapUptoRow.holds Try.pinned (OpenSpec.upto fnCompileMapSpec)

/-- 'laws.FnCompileValid', WHERE WHAT IT READS IS OF BULK AT MOST 1048576: true; the input reads as it did. -/
def fnCompileValidUptoRow : OpenClaim := { program := "ytimmlkmpbmbgdaa", sum := "5092ab07c2ebfdd199fc535f228b5919ae821cd9e4f818ed9cd8ba5c7a84832a", func := "loop.example/constanttime/laws.FnCompileValid", spec := "fnCompileValid", unfollowed := true, recurses := true, apart := false, narrowed := true }
def FnCompileValidUptoSaid : Prop := fnCompileValidUptoRow.holds Try.pinned (OpenSpec.upto fnCompileValidSpec)

/-- 'laws.FnCheckFlow', WHERE WHAT IT READS IS OF BULK AT MOST 1048576: true; the input reads as it did. -/
def fnCheckFlowUptoRow : OpenClaim := { program := "ytimmlkmpbmbgdaa", sum := "5092ab07c2ebfdd199fc535f228b5919ae821cd9e4f818ed9cd8ba5c7a84832a", func := "loop.example/constanttime/laws.FnCheckFlow", spec := "fnCheckFlow", unfollowed := true, recurses := true, apart := false, narrowed := true }
def FnCheckFlowUptoSaid : Prop := fnCheckFlowUptoRow.holds Try.pinned (OpenSpec.upto fnCheckFlowSpec)

/-- 'laws.FnCheckPrefix', WHERE WHAT IT READS IS OF BULK AT MOST 1048576: true; the input reads as it did. -/
def fnCheckPrefixUptoRow : OpenClaim := { program := "ytimmlkmpbmbgdaa", sum := "5092ab07c2ebfdd199fc535f228b5919ae821cd9e4f818ed9cd8ba5c7a84832a", func := "loop.example/constanttime/laws.FnCheckPrefix", spec := "fnCheckPrefix", unfollowed := true, recurses := true, apart := false, narrowed := true }
def FnCheckPrefixUptoSaid : Prop := fnCheckPrefixUptoRow.holds Try.pinned (OpenSpec.upto fnCheckPrefixSpec)

/-- 'laws.FnFlowPublic', WHERE WHAT IT READS IS OF BULK AT MOST 1048576: true; the input reads as it did. -/
def fnFlowPublicUptoRow : OpenClaim := { program := "ytimmlkmpbmbgdaa", sum := "5092ab07c2ebfdd199fc535f228b5919ae821cd9e4f818ed9cd8ba5c7a84832a", func := "loop.example/constanttime/laws.FnFlowPublic", spec := "fnFlowPublic", unfollowed := true, recurses := true, apart := false, narrowed := true }
def FnFlowPublicUptoSaid : Prop := fnFlowPublicUptoRow.holds Try.pinned (OpenSpec.upto fnFlowPublicSpec)

/-- 'laws.FnFlowBranch', WHERE WHAT IT READS IS OF BULK AT MOST 1048576: true; the input reads as it did. -/
def fnFlowBranchUptoRow : OpenClaim := { program := "ytimmlkmpbmbgdaa", sum := "5092ab07c2ebfdd199fc535f228b5919ae821cd9e4f818ed9cd8ba5c7a84832a", func := "loop.example/constanttime/laws.FnFlowBranch", spec := "fnFlowBranch", unfollowed := true, recurses := true, apart := false, narrowed := true }
def FnFlowBranchUptoSaid : Prop := fnFlowBranchUptoRow.holds Try.pinned (OpenSpec.upto fnFlowBranchSpec)

/-- 'laws.FnRaiseLabels', WHERE WHAT IT READS IS OF BULK AT MOST 1048576: true; the input reads as it did. -/
def fnRaiseLabelsUptoRow : OpenClaim := { program := "ytimmlkmpbmbgdaa", sum := "5092ab07c2ebfdd199fc535f228b5919ae821cd9e4f818ed9cd8ba5c7a84832a", func := "loop.example/constanttime/laws.FnRaiseLabels", spec := "fnRaiseLabels", unfollowed := true, recurses := true, apart := false, narrowed := true }
def FnRaiseLabelsUptoSaid : Prop := fnRaiseLabelsUptoRow.holds Try.pinned (OpenSpec.upto fnRaiseLabelsSpec)

/-- 'laws.FnFlowTop', WHERE WHAT IT READS IS OF BULK AT MOST 1048576: true; the input reads as it did. -/
def fnFlowTopUptoRow : OpenClaim := { program := "ytimmlkmpbmbgdaa", sum := "5092ab07c2ebfdd199fc535f228b5919ae821cd9e4f818ed9cd8ba5c7a84832a", func := "loop.example/constanttime/laws.FnFlowTop", spec := "fnFlowTop", unfollowed := true, recurses := true, apart := false, narrowed := true }
def FnFlowTopUptoSaid : Prop := fnFlowTopUptoRow.holds Try.pinned (OpenSpec.upto fnFlowTopSpec)

/-- 'laws.FnInferLabels', WHERE WHAT IT READS IS OF BULK AT MOST 1048576: true; the input reads as it did. -/
def fnInferLabelsUptoRow : OpenClaim := { program := "ytimmlkmpbmbgdaa", sum := "5092ab07c2ebfdd199fc535f228b5919ae821cd9e4f818ed9cd8ba5c7a84832a", func := "loop.example/constanttime/laws.FnInferLabels", spec := "fnInferLabels", unfollowed := true, recurses := true, apart := false, narrowed := true }
def FnInferLabelsUptoSaid : Prop := fnInferLabelsUptoRow.holds Try.pinned (OpenSpec.upto fnInferLabelsSpec)

/-- 'laws.FnInferLeast', WHERE WHAT IT READS IS OF BULK AT MOST 1048576: true; the input reads as it did. -/
def fnInferLeastUptoRow : OpenClaim := { program := "ytimmlkmpbmbgdaa", sum := "5092ab07c2ebfdd199fc535f228b5919ae821cd9e4f818ed9cd8ba5c7a84832a", func := "loop.example/constanttime/laws.FnInferLeast", spec := "fnInferLeast", unfollowed := true, recurses := true, apart := false, narrowed := true }
def FnInferLeastUptoSaid : Prop := fnInferLeastUptoRow.holds Try.pinned (OpenSpec.upto fnInferLeastSpec)

end Rows
end Go.Proofs.Ytimmlkmpbmbgdaa
