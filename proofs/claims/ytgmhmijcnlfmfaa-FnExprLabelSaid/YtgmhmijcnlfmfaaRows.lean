/-
  NARROWER THAN 'FOR EVERY INPUT', by the rows' own cells (each row's printed sentence says how): FnExactRestrictMemory: loops · FnExactExtendMemory: loops · FnExactPublicPart: loops · FnExactTrustedPart: loops · FnExactEvalExpr: loops.
  DERIVED. THE GIVEN ROWS OF THIS SEAT. 10 by the template 'for every input the law returns true; each argument reads behind the call as it read before'; 0 by the template 'total and deterministic' (their statements: YtgmhmijcnlfmfaaTotals.lean).
  GIVEN WITH THE SEED: the statements are not yours to turn. If you find one false, say at which input.
  Laid BY PROGRAM, IN A SANDBOX (cutbox-rows.mjs): the forced cells as the released guide's own fill.sh prints them over the translation a293e4b8cf082813… (all of the seat's roots in one cut). By AI agents, Wed Nov 11 2026. No macro, syntax, notation, axiom, sorry.
-/
import Derived.Test.YtgmhmijcnlfmfaaChecked
import GoSem.Claim
import GoSem.ClaimJoined
import GoSem.ClaimMapViews
import Derived.JoinedTies
import Derived.KernelRfl
namespace Go.Proofs.Ytgmhmijcnlfmfaa
/- THE CELL 'sum', in the pinned program and in every row, IS THE sha256 OF THE DUMP (.gsa) THAT YtgmhmijcnlfmfaaProg.lean LOADS. Nothing in Lean hashes anything: it is a label: what it is worth is what the hold of that sum in a sandbox is worth. -/
noncomputable def Try.pinned : Pinned := { name := "ytgmhmijcnlfmfaa", sum := "a293e4b8cf082813fff7ae2d4566fcdc1d7aca4d8f26864ff63cfcff1ca6a745", checked := Try.checked }
namespace Rows
def none {H : Type} : Left H := { results := [], args := [] }

/-- 'laws.FnExtendsProgram': WHATEVER THE INPUT: true; the input reads as it did. -/
def fnExtendsProgramSpec : ChangeSpec := { name := "fnExtendsProgram", fn := fun _ => fun
  | [d1, d2] => { results := [.lit (.bool true)], args := [d1, d2] }
  | _ => none }
def fnExtendsProgramRow : OpenClaim := { program := "ytgmhmijcnlfmfaa", sum := "a293e4b8cf082813fff7ae2d4566fcdc1d7aca4d8f26864ff63cfcff1ca6a745", func := "loop.example/constanttime/laws.FnExtendsProgram", spec := "fnExtendsProgram", unfollowed := true, recurses := true, apart := false }
def FnExtendsProgramSaid : Prop := fnExtendsProgramRow.holds Try.pinned (OpenSpec.ofChange fnExtendsProgramSpec)

/-- ITS FALSE NEIGHBOUR: 'it returns false'. Refute it at one input. -/
def fnExtendsProgramWrong : ChangeSpec := { name := "fnExtendsProgram", fn := fun _ => fun
  | [d1, d2] => { results := [.lit (.bool false)], args := [d1, d2] }
  | _ => none }
def FnExtendsProgramWrongFalsely : Prop := fnExtendsProgramRow.holds Try.pinned (OpenSpec.ofChange fnExtendsProgramWrong)

/-- 'laws.FnReachableCode': WHATEVER THE INPUT: true; the input reads as it did. -/
def fnReachableCodeSpec : ChangeSpec := { name := "fnReachableCode", fn := fun _ => fun
  | [d] => { results := [.lit (.bool true)], args := [d] }
  | _ => none }
def fnReachableCodeRow : OpenClaim := { program := "ytgmhmijcnlfmfaa", sum := "a293e4b8cf082813fff7ae2d4566fcdc1d7aca4d8f26864ff63cfcff1ca6a745", func := "loop.example/constanttime/laws.FnReachableCode", spec := "fnReachableCode", unfollowed := true, recurses := true, apart := false }
def FnReachableCodeSaid : Prop := fnReachableCodeRow.holds Try.pinned (OpenSpec.ofChange fnReachableCodeSpec)

/-- ITS FALSE NEIGHBOUR: 'it returns false'. Refute it at one input. -/
def fnReachableCodeWrong : ChangeSpec := { name := "fnReachableCode", fn := fun _ => fun
  | [d] => { results := [.lit (.bool false)], args := [d] }
  | _ => none }
def FnReachableCodeWrongFalsely : Prop := fnReachableCodeRow.holds Try.pinned (OpenSpec.ofChange fnReachableCodeWrong)

/-- 'laws.FnReachableRun': WHATEVER THE INPUT: true; the input reads as it did. -/
def fnReachableRunSpec : ChangeSpec := { name := "fnReachableRun", fn := fun _ => fun
  | [d] => { results := [.lit (.bool true)], args := [d] }
  | _ => none }
def fnReachableRunRow : OpenClaim := { program := "ytgmhmijcnlfmfaa", sum := "a293e4b8cf082813fff7ae2d4566fcdc1d7aca4d8f26864ff63cfcff1ca6a745", func := "loop.example/constanttime/laws.FnReachableRun", spec := "fnReachableRun", unfollowed := true, recurses := true, apart := false }
def FnReachableRunSaid : Prop := fnReachableRunRow.holds Try.pinned (OpenSpec.ofChange fnReachableRunSpec)

/-- ITS FALSE NEIGHBOUR: 'it returns false'. Refute it at one input. -/
def fnReachableRunWrong : ChangeSpec := { name := "fnReachableRun", fn := fun _ => fun
  | [d] => { results := [.lit (.bool false)], args := [d] }
  | _ => none }
def FnReachableRunWrongFalsely : Prop := fnReachableRunRow.holds Try.pinned (OpenSpec.ofChange fnReachableRunWrong)

/-- 'laws.FnExprLabel': WHATEVER THE INPUT: true; the input reads as it did. -/
def fnExprLabelSpec : ChangeSpec := { name := "fnExprLabel", fn := fun _ => fun
  | [d] => { results := [.lit (.bool true)], args := [d] }
  | _ => none }
def fnExprLabelRow : OpenClaim := { program := "ytgmhmijcnlfmfaa", sum := "a293e4b8cf082813fff7ae2d4566fcdc1d7aca4d8f26864ff63cfcff1ca6a745", func := "loop.example/constanttime/laws.FnExprLabel", spec := "fnExprLabel", unfollowed := true, recurses := true, apart := false }
def FnExprLabelSaid : Prop := fnExprLabelRow.holds Try.pinned (OpenSpec.ofChange fnExprLabelSpec)

/-- ITS FALSE NEIGHBOUR: 'it returns false'. Refute it at one input. -/
def fnExprLabelWrong : ChangeSpec := { name := "fnExprLabel", fn := fun _ => fun
  | [d] => { results := [.lit (.bool false)], args := [d] }
  | _ => none }
def FnExprLabelWrongFalsely : Prop := fnExprLabelRow.holds Try.pinned (OpenSpec.ofChange fnExprLabelWrong)

/-- 'laws.FnFoldExpr': WHATEVER THE INPUT: true; the input reads as it did. -/
def fnFoldExprSpec : ChangeSpec := { name := "fnFoldExpr", fn := fun _ => fun
  | [d] => { results := [.lit (.bool true)], args := [d] }
  | _ => none }
def fnFoldExprRow : OpenClaim := { program := "ytgmhmijcnlfmfaa", sum := "a293e4b8cf082813fff7ae2d4566fcdc1d7aca4d8f26864ff63cfcff1ca6a745", func := "loop.example/constanttime/laws.FnFoldExpr", spec := "fnFoldExpr", unfollowed := true, recurses := true, apart := false }
def FnFoldExprSaid : Prop := fnFoldExprRow.holds Try.pinned (OpenSpec.ofChange fnFoldExprSpec)

/-- ITS FALSE NEIGHBOUR: 'it returns false'. Refute it at one input. -/
def fnFoldExprWrong : ChangeSpec := { name := "fnFoldExpr", fn := fun _ => fun
  | [d] => { results := [.lit (.bool false)], args := [d] }
  | _ => none }
def FnFoldExprWrongFalsely : Prop := fnFoldExprRow.holds Try.pinned (OpenSpec.ofChange fnFoldExprWrong)

/-- 'laws.FnExactRestrictMemory': WHATEVER THE INPUT: true; the input reads as it did. -/
def fnExactRestrictMemorySpec : ChangeSpec := { name := "fnExactRestrictMemory", fn := fun _ => fun
  | [d1, d2, d3] => { results := [.lit (.bool true)], args := [d1, d2, d3] }
  | _ => none }
def fnExactRestrictMemoryRow : OpenClaim := { program := "ytgmhmijcnlfmfaa", sum := "a293e4b8cf082813fff7ae2d4566fcdc1d7aca4d8f26864ff63cfcff1ca6a745", func := "loop.example/constanttime/laws.FnExactRestrictMemory", spec := "fnExactRestrictMemory", unfollowed := true, recurses := true, loops := true, apart := false }
def FnExactRestrictMemorySaid : Prop := fnExactRestrictMemoryRow.holds Try.pinned (OpenSpec.ofChange fnExactRestrictMemorySpec)

/-- ITS FALSE NEIGHBOUR: 'it returns false'. Refute it at one input. -/
def fnExactRestrictMemoryWrong : ChangeSpec := { name := "fnExactRestrictMemory", fn := fun _ => fun
  | [d1, d2, d3] => { results := [.lit (.bool false)], args := [d1, d2, d3] }
  | _ => none }
def FnExactRestrictMemoryWrongFalsely : Prop := fnExactRestrictMemoryRow.holds Try.pinned (OpenSpec.ofChange fnExactRestrictMemoryWrong)

/-- 'laws.FnExactExtendMemory': WHATEVER THE INPUT: true; the input reads as it did. -/
def fnExactExtendMemorySpec : ChangeSpec := { name := "fnExactExtendMemory", fn := fun _ => fun
  | [d1, d2, d3] => { results := [.lit (.bool true)], args := [d1, d2, d3] }
  | _ => none }
def fnExactExtendMemoryRow : OpenClaim := { program := "ytgmhmijcnlfmfaa", sum := "a293e4b8cf082813fff7ae2d4566fcdc1d7aca4d8f26864ff63cfcff1ca6a745", func := "loop.example/constanttime/laws.FnExactExtendMemory", spec := "fnExactExtendMemory", unfollowed := true, recurses := true, loops := true, apart := false }
def FnExactExtendMemorySaid : Prop := fnExactExtendMemoryRow.holds Try.pinned (OpenSpec.ofChange fnExactExtendMemorySpec)

/-- ITS FALSE NEIGHBOUR: 'it returns false'. Refute it at one input. -/
def fnExactExtendMemoryWrong : ChangeSpec := { name := "fnExactExtendMemory", fn := fun _ => fun
  | [d1, d2, d3] => { results := [.lit (.bool false)], args := [d1, d2, d3] }
  | _ => none }
def FnExactExtendMemoryWrongFalsely : Prop := fnExactExtendMemoryRow.holds Try.pinned (OpenSpec.ofChange fnExactExtendMemoryWrong)

/-- 'laws.FnExactPublicPart': WHATEVER THE INPUT: true; the input reads as it did. -/
def fnExactPublicPartSpec : ChangeSpec := { name := "fnExactPublicPart", fn := fun _ => fun
  | [d1, d2] => { results := [.lit (.bool true)], args := [d1, d2] }
  | _ => none }
def fnExactPublicPartRow : OpenClaim := { program := "ytgmhmijcnlfmfaa", sum := "a293e4b8cf082813fff7ae2d4566fcdc1d7aca4d8f26864ff63cfcff1ca6a745", func := "loop.example/constanttime/laws.FnExactPublicPart", spec := "fnExactPublicPart", unfollowed := true, recurses := true, loops := true, apart := false }
def FnExactPublicPartSaid : Prop := fnExactPublicPartRow.holds Try.pinned (OpenSpec.ofChange fnExactPublicPartSpec)

/-- ITS FALSE NEIGHBOUR: 'it returns false'. Refute it at one input. -/
def fnExactPublicPartWrong : ChangeSpec := { name := "fnExactPublicPart", fn := fun _ => fun
  | [d1, d2] => { results := [.lit (.bool false)], args := [d1, d2] }
  | _ => none }
def FnExactPublicPartWrongFalsely : Prop := fnExactPublicPartRow.holds Try.pinned (OpenSpec.ofChange fnExactPublicPartWrong)

/-- 'laws.FnExactTrustedPart': WHATEVER THE INPUT: true; the input reads as it did. -/
def fnExactTrustedPartSpec : ChangeSpec := { name := "fnExactTrustedPart", fn := fun _ => fun
  | [d1, d2] => { results := [.lit (.bool true)], args := [d1, d2] }
  | _ => none }
def fnExactTrustedPartRow : OpenClaim := { program := "ytgmhmijcnlfmfaa", sum := "a293e4b8cf082813fff7ae2d4566fcdc1d7aca4d8f26864ff63cfcff1ca6a745", func := "loop.example/constanttime/laws.FnExactTrustedPart", spec := "fnExactTrustedPart", unfollowed := true, recurses := true, loops := true, apart := false }
def FnExactTrustedPartSaid : Prop := fnExactTrustedPartRow.holds Try.pinned (OpenSpec.ofChange fnExactTrustedPartSpec)

/-- ITS FALSE NEIGHBOUR: 'it returns false'. Refute it at one input. -/
def fnExactTrustedPartWrong : ChangeSpec := { name := "fnExactTrustedPart", fn := fun _ => fun
  | [d1, d2] => { results := [.lit (.bool false)], args := [d1, d2] }
  | _ => none }
def FnExactTrustedPartWrongFalsely : Prop := fnExactTrustedPartRow.holds Try.pinned (OpenSpec.ofChange fnExactTrustedPartWrong)

/-- 'laws.FnExactEvalExpr': WHATEVER THE INPUT: true; the input reads as it did. -/
def fnExactEvalExprSpec : ChangeSpec := { name := "fnExactEvalExpr", fn := fun _ => fun
  | [d1, d2, d3] => { results := [.lit (.bool true)], args := [d1, d2, d3] }
  | _ => none }
def fnExactEvalExprRow : OpenClaim := { program := "ytgmhmijcnlfmfaa", sum := "a293e4b8cf082813fff7ae2d4566fcdc1d7aca4d8f26864ff63cfcff1ca6a745", func := "loop.example/constanttime/laws.FnExactEvalExpr", spec := "fnExactEvalExpr", unfollowed := true, recurses := true, loops := true, apart := false }
def FnExactEvalExprSaid : Prop := fnExactEvalExprRow.holds Try.pinned (OpenSpec.ofChange fnExactEvalExprSpec)

/-- ITS FALSE NEIGHBOUR: 'it returns false'. Refute it at one input. -/
def fnExactEvalExprWrong : ChangeSpec := { name := "fnExactEvalExpr", fn := fun _ => fun
  | [d1, d2, d3] => { results := [.lit (.bool false)], args := [d1, d2, d3] }
  | _ => none }
def FnExactEvalExprWrongFalsely : Prop := fnExactEvalExprRow.holds Try.pinned (OpenSpec.ofChange fnExactEvalExprWrong)

/- THE SECOND FORM. 'bulk': how many values and letters a reading holds, each counted each time it is reached (what is shared counts as often as it is met; a slice's spare places count too). A statement '..UptoSaid' is the law's where the arguments, and the package variables that the reading takes, are together of bulk at most 1048576: NARROWER than '..Said'. Prove '..Said' where nothing that the law and all that it calls make is longer than what came in: it says more and counts as full. Else prove '..UptoSaid'. A law counts once. -/
mutual
def uptoBulk {H : Type} : DataW H → Nat
  | .lit (.string bytes) => bytes.length + 1
  | .lit _ => 1
  | .nil => 1
  | .ptr d => uptoBulk d + 1
  | .slice elems spare => uptoBulkAll elems + uptoBulkAll spare + 1
  | .agg parts => uptoBulkAll parts + 1
  | .iface _ d => uptoBulk d + 1
  | .map entries => uptoBulkEntries entries + 1
  | .held _ => 1
def uptoBulkAll {H : Type} : List (DataW H) → Nat
  | [] => 0
  | d :: r => uptoBulk d + uptoBulkAll r
def uptoBulkEntries {H : Type} : List (Lit × DataW H) → Nat
  | [] => 0
  | x :: r => uptoBulkEntry x + uptoBulkEntries r
def uptoBulkEntry {H : Type} : Lit × DataW H → Nat
  | (.string bytes, d) => bytes.length + uptoBulk d + 1
  | (_, d) => uptoBulk d + 1
 end
def uptoSmall : (H : Type) → List (DataW H) → Bool := fun _ ds => decide (uptoBulkAll ds ≤ 1048576)
def OpenSpec.upto (s : _root_.Go.ChangeSpec) : _root_.Go.OpenSpec := { _root_.Go.OpenSpec.ofChange s with cond := some uptoSmall }

/-- 'laws.FnExtendsProgram', WHERE WHAT IT READS IS OF BULK AT MOST 1048576: true; the input reads as it did. -/
def fnExtendsProgramUptoRow : OpenClaim := { program := "ytgmhmijcnlfmfaa", sum := "a293e4b8cf082813fff7ae2d4566fcdc1d7aca4d8f26864ff63cfcff1ca6a745", func := "loop.example/constanttime/laws.FnExtendsProgram", spec := "fnExtendsProgram", unfollowed := true, recurses := true, apart := false, narrowed := true }
def FnExtendsProgramUptoSaid : Prop := fnExtendsProgramUptoRow.holds Try.pinned (OpenSpec.upto fnExtendsProgramSpec)

/-- 'laws.FnReachableCode', WHERE WHAT IT READS IS OF BULK AT MOST 1048576: true; the input reads as it did. -/
def fnReachableCodeUptoRow : OpenClaim := { program := "ytgmhmijcnlfmfaa", sum := "a293e4b8cf082813fff7ae2d4566fcdc1d7aca4d8f26864ff63cfcff1ca6a745", func := "loop.example/constanttime/laws.FnReachableCode", spec := "fnReachableCode", unfollowed := true, recurses := true, apart := false, narrowed := true }
def FnReachableCodeUptoSaid : Prop := fnReachableCodeUptoRow.holds Try.pinned (OpenSpec.upto fnReachableCodeSpec)

/-- 'laws.FnReachableRun', WHERE WHAT IT READS IS OF BULK AT MOST 1048576: true; the input reads as it did. -/
def fnReachableRunUptoRow : OpenClaim := { program := "ytgmhmijcnlfmfaa", sum := "a293e4b8cf082813fff7ae2d4566fcdc1d7aca4d8f26864ff63cfcff1ca6a745", func := "loop.example/constanttime/laws.FnReachableRun", spec := "fnReachableRun", unfollowed := true, recurses := true, apart := false, narrowed := true }
def FnReachableRunUptoSaid : Prop := fnReachableRunUptoRow.holds Try.pinned (OpenSpec.upto fnReachableRunSpec)

/-- 'laws.FnExprLabel', WHERE WHAT IT READS IS OF BULK AT MOST 1048576: true; the input reads as it did. -/
def fnExprLabelUptoRow : OpenClaim := { program := "ytgmhmijcnlfmfaa", sum := "a293e4b8cf082813fff7ae2d4566fcdc1d7aca4d8f26864ff63cfcff1ca6a745", func := "loop.example/constanttime/laws.FnExprLabel", spec := "fnExprLabel", unfollowed := true, recurses := true, apart := false, narrowed := true }
def FnExprLabelUptoSaid : Prop := fnExprLabelUptoRow.holds Try.pinned (OpenSpec.upto fnExprLabelSpec)

/-- 'laws.FnFoldExpr', WHERE WHAT IT READS IS OF BULK AT MOST 1048576: true; the input reads as it did. -/
def fnFoldExprUptoRow : OpenClaim := { program := "ytgmhmijcnlfmfaa", sum := "a293e4b8cf082813fff7ae2d4566fcdc1d7aca4d8f26864ff63cfcff1ca6a745", func := "loop.example/constanttime/laws.FnFoldExpr", spec := "fnFoldExpr", unfollowed := true, recurses := true, apart := false, narrowed := true }
def FnFoldExprUptoSaid : Prop := fnFoldExprUptoRow.holds Try.pinned (OpenSpec.upto fnFoldExprSpec)

/-- 'laws.FnExactRestrictMemory', WHERE WHAT IT READS IS OF BULK AT MOST 1048576: true; the input reads as it did. -/
def fnExactRestrictMemoryUptoRow : OpenClaim := { program := "ytgmhmijcnlfmfaa", sum := "a293e4b8cf082813fff7ae2d4566fcdc1d7aca4d8f26864ff63cfcff1ca6a745", func := "loop.example/constanttime/laws.FnExactRestrictMemory", spec := "fnExactRestrictMemory", unfollowed := true, recurses := true, loops := true, apart := false, narrowed := true }
def FnExactRestrictMemoryUptoSaid : Prop := fnExactRestrictMemoryUptoRow.holds Try.pinned (OpenSpec.upto fnExactRestrictMemorySpec)

/-- 'laws.FnExactExtendMemory', WHERE WHAT IT READS IS OF BULK AT MOST 1048576: true; the input reads as it did. -/
def fnExactExtendMemoryUptoRow : OpenClaim := { program := "ytgmhmijcnlfmfaa", sum := "a293e4b8cf082813fff7ae2d4566fcdc1d7aca4d8f26864ff63cfcff1ca6a745", func := "loop.example/constanttime/laws.FnExactExtendMemory", spec := "fnExactExtendMemory", unfollowed := true, recurses := true, loops := true, apart := false, narrowed := true }
def FnExactExtendMemoryUptoSaid : Prop := fnExactExtendMemoryUptoRow.holds Try.pinned (OpenSpec.upto fnExactExtendMemorySpec)

/-- 'laws.FnExactPublicPart', WHERE WHAT IT READS IS OF BULK AT MOST 1048576: true; the input reads as it did. -/
def fnExactPublicPartUptoRow : OpenClaim := { program := "ytgmhmijcnlfmfaa", sum := "a293e4b8cf082813fff7ae2d4566fcdc1d7aca4d8f26864ff63cfcff1ca6a745", func := "loop.example/constanttime/laws.FnExactPublicPart", spec := "fnExactPublicPart", unfollowed := true, recurses := true, loops := true, apart := false, narrowed := true }
def FnExactPublicPartUptoSaid : Prop := fnExactPublicPartUptoRow.holds Try.pinned (OpenSpec.upto fnExactPublicPartSpec)

/-- 'laws.FnExactTrustedPart', WHERE WHAT IT READS IS OF BULK AT MOST 1048576: true; the input reads as it did. -/
def fnExactTrustedPartUptoRow : OpenClaim := { program := "ytgmhmijcnlfmfaa", sum := "a293e4b8cf082813fff7ae2d4566fcdc1d7aca4d8f26864ff63cfcff1ca6a745", func := "loop.example/constanttime/laws.FnExactTrustedPart", spec := "fnExactTrustedPart", unfollowed := true, recurses := true, loops := true, apart := false, narrowed := true }
def FnExactTrustedPartUptoSaid : Prop := fnExactTrustedPartUptoRow.holds Try.pinned (OpenSpec.upto fnExactTrustedPartSpec)

/-- 'laws.FnExactEvalExpr', WHERE WHAT IT READS IS OF BULK AT MOST 1048576: true; the input reads as it did. -/
def fnExactEvalExprUptoRow : OpenClaim := { program := "ytgmhmijcnlfmfaa", sum := "a293e4b8cf082813fff7ae2d4566fcdc1d7aca4d8f26864ff63cfcff1ca6a745", func := "loop.example/constanttime/laws.FnExactEvalExpr", spec := "fnExactEvalExpr", unfollowed := true, recurses := true, loops := true, apart := false, narrowed := true }
def FnExactEvalExprUptoSaid : Prop := fnExactEvalExprUptoRow.holds Try.pinned (OpenSpec.upto fnExactEvalExprSpec)

end Rows
end Go.Proofs.Ytgmhmijcnlfmfaa
