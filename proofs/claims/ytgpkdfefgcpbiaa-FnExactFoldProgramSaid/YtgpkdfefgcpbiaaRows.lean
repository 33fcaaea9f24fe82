/-
  NARROWER THAN 'FOR EVERY INPUT', by the rows' own cells (each row's printed sentence says how): FnExactCheckConstantTime: loops · FnExactFoldExpr: loops · FnExactRaiseLabels: loops · FnExactCompileMap: loops · FnExactPublicPart: loops · FnExactTrustedPart: loops · FnExactRestrictMemory: loops · FnExactExtendMemory: loops · FnExactEvalExpr: loops · FnExactCompileProgram: loops · FnExactFoldProgram: loops · FnExactInferLabels: loops.
  DERIVED. THE GIVEN ROWS OF THIS SEAT. 12 by the template 'for every input the law returns true; each argument reads behind the call as it read before'; 0 by the template 'total and deterministic' (their statements: YtgpkdfefgcpbiaaTotals.lean).
  GIVEN WITH THE SEED: the statements are not yours to turn. If you find one false, say at which input.
  Laid BY PROGRAM, IN A SANDBOX (cutbox-rows.mjs): the forced cells as the released guide's own fill.sh prints them over the translation 60e01d767ef6f232… (all of the seat's roots in one cut). By AI agents, Wed Nov 11 2026. No macro, syntax, notation, axiom, sorry.
-/
import Derived.Test.YtgpkdfefgcpbiaaChecked
import GoSem.Claim
import GoSem.ClaimJoined
import GoSem.ClaimMapViews
import Derived.JoinedTies
import Derived.KernelRfl
namespace Go.Proofs.Ytgpkdfefgcpbiaa
/- THE CELL 'sum', in the pinned program and in every row, IS THE sha256 OF THE DUMP (.gsa) THAT YtgpkdfefgcpbiaaProg.lean LOADS. Nothing in Lean hashes anything: it is a label: what it is worth is what the hold of that sum in a sandbox is worth. -/
noncomputable def Try.pinned : Pinned := { name := "ytgpkdfefgcpbiaa", sum := "60e01d767ef6f2323991f174c48aafb590873d99e476ed24e12cea507d26828a", checked := Try.checked }
namespace Rows
def none {H : Type} : Left H := { results := [], args := [] }

/-- 'laws.FnExactCheckConstantTime': WHATEVER THE INPUT: true; the input reads as it did. -/
def fnExactCheckConstantTimeSpec : ChangeSpec := { name := "fnExactCheckConstantTime", fn := fun _ => fun
  | [d] => { results := [.lit (.bool true)], args := [d] }
  | _ => none }
def fnExactCheckConstantTimeRow : OpenClaim := { program := "ytgpkdfefgcpbiaa", sum := "60e01d767ef6f2323991f174c48aafb590873d99e476ed24e12cea507d26828a", func := "loop.example/constanttime/laws.FnExactCheckConstantTime", spec := "fnExactCheckConstantTime", unfollowed := true, recurses := true, loops := true, apart := false }
def FnExactCheckConstantTimeSaid : Prop := fnExactCheckConstantTimeRow.holds Try.pinned (OpenSpec.ofChange fnExactCheckConstantTimeSpec)

/-- ITS FALSE NEIGHBOUR: 'it returns false'. Refute it at one input. -/
def fnExactCheckConstantTimeWrong : ChangeSpec := { name := "fnExactCheckConstantTime", fn := fun _ => fun
  | [d] => { results := [.lit (.bool false)], args := [d] }
  | _ => none }
def FnExactCheckConstantTimeWrongFalsely : Prop := fnExactCheckConstantTimeRow.holds Try.pinned (OpenSpec.ofChange fnExactCheckConstantTimeWrong)

/-- 'laws.FnExactFoldExpr': WHATEVER THE INPUT: true; the input reads as it did. -/
def fnExactFoldExprSpec : ChangeSpec := { name := "fnExactFoldExpr", fn := fun _ => fun
  | [d1, d2] => { results := [.lit (.bool true)], args := [d1, d2] }
  | _ => none }
def fnExactFoldExprRow : OpenClaim := { program := "ytgpkdfefgcpbiaa", sum := "60e01d767ef6f2323991f174c48aafb590873d99e476ed24e12cea507d26828a", func := "loop.example/constanttime/laws.FnExactFoldExpr", spec := "fnExactFoldExpr", unfollowed := true, recurses := true, loops := true, apart := false }
def FnExactFoldExprSaid : Prop := fnExactFoldExprRow.holds Try.pinned (OpenSpec.ofChange fnExactFoldExprSpec)

/-- ITS FALSE NEIGHBOUR: 'it returns false'. Refute it at one input. -/
def fnExactFoldExprWrong : ChangeSpec := { name := "fnExactFoldExpr", fn := fun _ => fun
  | [d1, d2] => { results := [.lit (.bool false)], args := [d1, d2] }
  | _ => none }
def FnExactFoldExprWrongFalsely : Prop := fnExactFoldExprRow.holds Try.pinned (OpenSpec.ofChange fnExactFoldExprWrong)

/-- 'laws.FnExactRaiseLabels': WHATEVER THE INPUT: true; the input reads as it did. -/
def fnExactRaiseLabelsSpec : ChangeSpec := { name := "fnExactRaiseLabels", fn := fun _ => fun
  | [d1, d2] => { results := [.lit (.bool true)], args := [d1, d2] }
  | _ => none }
def fnExactRaiseLabelsRow : OpenClaim := { program := "ytgpkdfefgcpbiaa", sum := "60e01d767ef6f2323991f174c48aafb590873d99e476ed24e12cea507d26828a", func := "loop.example/constanttime/laws.FnExactRaiseLabels", spec := "fnExactRaiseLabels", unfollowed := true, recurses := true, loops := true, apart := false }
def FnExactRaiseLabelsSaid : Prop := fnExactRaiseLabelsRow.holds Try.pinned (OpenSpec.ofChange fnExactRaiseLabelsSpec)

/-- ITS FALSE NEIGHBOUR: 'it returns false'. Refute it at one input. -/
def fnExactRaiseLabelsWrong : ChangeSpec := { name := "fnExactRaiseLabels", fn := fun _ => fun
  | [d1, d2] => { results := [.lit (.bool false)], args := [d1, d2] }
  | _ => none }
def FnExactRaiseLabelsWrongFalsely : Prop := fnExactRaiseLabelsRow.holds Try.pinned (OpenSpec.ofChange fnExactRaiseLabelsWrong)

/-- 'laws.FnExactCompileMap': WHATEVER THE INPUT: true; the input reads as it did. -/
def fnExactCompileMapSpec : ChangeSpec := { name := "fnExactCompileMap", fn := fun _ => fun
  | [d] => { results := [.lit (.bool true)], args := [d] }
  | _ => none }
def fnExactCompileMapRow : OpenClaim := { program := "ytgpkdfefgcpbiaa", sum := "60e01d767ef6f2323991f174c48aafb590873d99e476ed24e12cea507d26828a", func := "loop.example/constanttime/laws.FnExactCompileMap", spec := "fnExactCompileMap", unfollowed := true, recurses := true, loops := true, apart := false }
def FnExactCompileMapSaid : Prop := fnExactCompileMapRow.holds Try.pinned (OpenSpec.ofChange fnExactCompileMapSpec)

/-- ITS FALSE NEIGHBOUR: 'it returns false'. Refute it at one input. -/
def fnExactCompileMapWrong : ChangeSpec := { name := "fnExactCompileMap", fn := fun _ => fun
  | [d] => { results := [.lit (.bool false)], args := [d] }
  | _ => none }
def FnExactCompileMapWrongFalsely : Prop := fnExactCompileMapRow.holds Try.pinned (OpenSpec.ofChange fnExactCompileMapWrong)

/-- 'laws.FnExactPublicPart': WHATEVER THE INPUT: true; the input reads as it did. -/
def fnExactPublicPartSpec : ChangeSpec := { name := "fnExactPublicPart", fn := fun _ => fun
  | [d1, d2] => { results := [.lit (.bool true)], args := [d1, d2] }
  | _ => none }
def fnExactPublicPartRow : OpenClaim := { program := "ytgpkdfefgcpbiaa", sum := "60e01d767ef6f2323991f174c48aafb590873d99e476ed24e12cea507d26828a", func := "loop.example/constanttime/laws.FnExactPublicPart", spec := "fnExactPublicPart", unfollowed := true, recurses := true, loops := true, apart := false }
def FnExactPublicPartSaid : Prop := fnExactPublicPartRow.holds Try.pinned (OpenSpec.ofChange fnExactPublicPartSpec)

/-- ITS FALSE NEIGHBOUR: 'it returns false'. Refute it at one input. -/
def fnExactPublicPartWrong : ChangeSpec := { name := "fnExactPublicPart", fn := fun _ => fun
  | [d1, d2] => { results := [.lit (.bool false)], args := [d1, d2] }
  | _ => none }
def FnExactPublicPartWrongFalsely : Prop := fnExactPublicPartRow.holds Try.pinned (OpenSpec.ofChange fnExactPublicPartWrong)

/-- 'laws.FnExactTrustedPart': WHATEVER THE INPUT: true; the input reads as it did. -/
def fnExactTrustedPartSpec : ChangeSpec := { name := "fnExactTrustedPart", fn := fun _ => fun
  | [d1, d2] => { results := [.lit (.bool true)], args := [d1, d2] }
  | _ => none }
def fnExactTrustedPartRow : OpenClaim := { program := "ytgpkdfefgcpbiaa", sum := "60e01d767ef6f2323991f174c48aafb590873d99e476ed24e12cea507d26828a", func := "loop.example/constanttime/laws.FnExactTrustedPart", spec := "fnExactTrustedPart", unfollowed := true, recurses := true, loops := true, apart := false }
def FnExactTrustedPartSaid : Prop := fnExactTrustedPartRow.holds Try.pinned (OpenSpec.ofChange fnExactTrustedPartSpec)

/-- ITS FALSE NEIGHBOUR: 'it returns false'. Refute it at one input. -/
def fnExactTrustedPartWrong : ChangeSpec := { name := "fnExactTrustedPart", fn := fun _ => fun
  | [d1, d2] => { results := [.lit (.bool false)], args := [d1, d2] }
  | _ => none }
def FnExactTrustedPartWrongFalsely : Prop := fnExactTrustedPartRow.holds Try.pinned (OpenSpec.ofChange fnExactTrustedPartWrong)

/-- 'laws.FnExactRestrictMemory': WHATEVER THE INPUT: true; the input reads as it did. -/
def fnExactRestrictMemorySpec : ChangeSpec := { name := "fnExactRestrictMemory", fn := fun _ => fun
  | [d1, d2, d3] => { results := [.lit (.bool true)], args := [d1, d2, d3] }
  | _ => none }
def fnExactRestrictMemoryRow : OpenClaim := { program := "ytgpkdfefgcpbiaa", sum := "60e01d767ef6f2323991f174c48aafb590873d99e476ed24e12cea507d26828a", func := "loop.example/constanttime/laws.FnExactRestrictMemory", spec := "fnExactRestrictMemory", unfollowed := true, recurses := true, loops := true, apart := false }
def FnExactRestrictMemorySaid : Prop := fnExactRestrictMemoryRow.holds Try.pinned (OpenSpec.ofChange fnExactRestrictMemorySpec)

/-- ITS FALSE NEIGHBOUR: 'it returns false'. Refute it at one input. -/
def fnExactRestrictMemoryWrong : ChangeSpec := { name := "fnExactRestrictMemory", fn := fun _ => fun
  | [d1, d2, d3] => { results := [.lit (.bool false)], args := [d1, d2, d3] }
  | _ => none }
def FnExactRestrictMemoryWrongFalsely : Prop := fnExactRestrictMemoryRow.holds Try.pinned (OpenSpec.ofChange fnExactRestrictMemoryWrong)

/-- 'laws.FnExactExtendMemory': WHATEVER THE INPUT: true; the input reads as it did. -/
def fnExactExtendMemorySpec : ChangeSpec := { name := "fnExactExtendMemory", fn := fun _ => fun
  | [d1, d2, d3] => { results := [.lit (.bool true)], args := [d1, d2, d3] }
  | _ => none }
def fnExactExtendMemoryRow : OpenClaim := { program := "ytgpkdfefgcpbiaa", sum := "60e01d767ef6f2323991f174c48aafb590873d99e476ed24e12cea507d26828a", func := "loop.example/constanttime/laws.FnExactExtendMemory", spec := "fnExactExtendMemory", unfollowed := true, recurses := true, loops := true, apart := false }
def FnExactExtendMemorySaid : Prop := fnExactExtendMemoryRow.holds Try.pinned (OpenSpec.ofChange fnExactExtendMemorySpec)

/-- ITS FALSE NEIGHBOUR: 'it returns false'. Refute it at one input. -/
def fnExactExtendMemoryWrong : ChangeSpec := { name := "fnExactExtendMemory", fn := fun _ => fun
  | [d1, d2, d3] => { results := [.lit (.bool false)], args := [d1, d2, d3] }
  | _ => none }
def FnExactExtendMemoryWrongFalsely : Prop := fnExactExtendMemoryRow.holds Try.pinned (OpenSpec.ofChange fnExactExtendMemoryWrong)

/-- 'laws.FnExactEvalExpr': WHATEVER THE INPUT: true; the input reads as it did. -/
def fnExactEvalExprSpec : ChangeSpec := { name := "fnExactEvalExpr", fn := fun _ => fun
  | [d1, d2, d3] => { results := [.lit (.bool true)], args := [d1, d2, d3] }
  | _ => none }
def fnExactEvalExprRow : OpenClaim := { program := "ytgpkdfefgcpbiaa", sum := "60e01d767ef6f2323991f174c48aafb590873d99e476ed24e12cea507d26828a", func := "loop.example/constanttime/laws.FnExactEvalExpr", spec := "fnExactEvalExpr", unfollowed := true, recurses := true, loops := true, apart := false }
def FnExactEvalExprSaid : Prop := fnExactEvalExprRow.holds Try.pinned (OpenSpec.ofChange fnExactEvalExprSpec)

/-- ITS FALSE NEIGHBOUR: 'it returns false'. Refute it at one input. -/
def fnExactEvalExprWrong : ChangeSpec := { name := "fnExactEvalExpr", fn := fun _ => fun
  | [d1, d2, d3] => { results := [.lit (.bool false)], args := [d1, d2, d3] }
  | _ => none }
def FnExactEvalExprWrongFalsely : Prop := fnExactEvalExprRow.holds Try.pinned (OpenSpec.ofChange fnExactEvalExprWrong)

/-- 'laws.FnExactCompileProgram': WHATEVER THE INPUT: true; the input reads as it did. -/
def fnExactCompileProgramSpec : ChangeSpec := { name := "fnExactCompileProgram", fn := fun _ => fun
  | [d] => { results := [.lit (.bool true)], args := [d] }
  | _ => none }
def fnExactCompileProgramRow : OpenClaim := { program := "ytgpkdfefgcpbiaa", sum := "60e01d767ef6f2323991f174c48aafb590873d99e476ed24e12cea507d26828a", func := "loop.example/constanttime/laws.FnExactCompileProgram", spec := "fnExactCompileProgram", unfollowed := true, recurses := true, loops := true, apart := false }
def FnExactCompileProgramSaid : Prop := fnExactCompileProgramRow.holds Try.pinned (OpenSpec.ofChange fnExactCompileProgramSpec)

/-- ITS FALSE NEIGHBOUR: 'it returns false'. Refute it at one input. -/
def fnExactCompileProgramWrong : ChangeSpec := { name := "fnExactCompileProgram", fn := fun _ => fun
  | [d] => { results := [.lit (.bool false)], args := [d] }
  | _ => none }
def FnExactCompileProgramWrongFalsely : Prop := fnExactCompileProgramRow.holds Try.pinned (OpenSpec.ofChange fnExactCompileProgramWrong)

/-- 'laws.FnExactFoldProgram': WHATEVER THE INPUT: true; the input reads as it did. -/
def fnExactFoldProgramSpec : ChangeSpec := { name := "fnExactFoldProgram", fn := fun _ => fun
  | [d] => { results := [.lit (.bool true)], args := [d] }
  | _ => none }
def fnExactFoldProgramRow : OpenClaim := { program := "ytgpkdfefgcpbiaa", sum := "60e01d767ef6f2323991f174c48aafb590873d99e476ed24e12cea507d26828a", func := "loop.example/constanttime/laws.FnExactFoldProgram", spec := "fnExactFoldProgram", unfollowed := true, recurses := true, loops := true, apart := false }
def FnExactFoldProgramSaid : Prop := fnExactFoldProgramRow.holds Try.pinned (OpenSpec.ofChange fnExactFoldProgramSpec)

/-- ITS FALSE NEIGHBOUR: 'it returns false'. Refute it at one input. -/
def fnExactFoldProgramWrong : ChangeSpec := { name := "fnExactFoldProgram", fn := fun _ => fun
  | [d] => { results := [.lit (.bool false)], args := [d] }
  | _ => none }
def FnExactFoldProgramWrongFalsely : Prop := fnExactFoldProgramRow.holds Try.pinned (OpenSpec.ofChange fnExactFoldProgramWrong)

/-- 'laws.FnExactInferLabels': WHATEVER THE INPUT: true; the input reads as it did. -/
def fnExactInferLabelsSpec : ChangeSpec := { name := "fnExactInferLabels", fn := fun _ => fun
  | [d] => { results := [.lit (.bool true)], args := [d] }
  | _ => none }
def fnExactInferLabelsRow : OpenClaim := { program := "ytgpkdfefgcpbiaa", sum := "60e01d767ef6f2323991f174c48aafb590873d99e476ed24e12cea507d26828a", func := "loop.example/constanttime/laws.FnExactInferLabels", spec := "fnExactInferLabels", unfollowed := true, recurses := true, loops := true, apart := false }
def FnExactInferLabelsSaid : Prop := fnExactInferLabelsRow.holds Try.pinned (OpenSpec.ofChange fnExactInferLabelsSpec)

/-- ITS FALSE NEIGHBOUR: 'it returns false'. Refute it at one input. -/
def fnExactInferLabelsWrong : ChangeSpec := { name := "fnExactInferLabels", fn := fun _ => fun
  | [d] => { results := [.lit (.bool false)], args := [d] }
  | _ => none }
def FnExactInferLabelsWrongFalsely : Prop := fnExactInferLabelsRow.holds Try.pinned (OpenSpec.ofChange fnExactInferLabelsWrong)

/- THE SECOND FORM. 'bulk': how many values and letters a reading holds, each counted each time it is reached (what is shared counts as often as it is met; a slice's spare places count too). A statement '..UptoSaid' is the law's where the arguments, and the package variables that the reading takes, are together of bulk at most 1048576: NARROWER than '..Said'. Prove '..Said' where nothing that the law and all that it calls make is longer than what came in: it says more and counts as full. Else prove '..UptoSaid'. A law counts once. -/
mutual
def uptoBulk {H : Type} : DataW H → Nat
  | .lit (.string bytes) => bytes.length + 1
  | .lit _ => 1
  | .nil => 1
  | .ptr d => uptoBulk d + 1
  | .slice elems spare => uptoBulkAll elems + uptoBulkAll spare + 1
  | .agg parts => uptoBulkAll parts + 1
  | .iface _ d => uptoBulk d + 1
  | .map entries => uptoBulkEntries entries + 1
  | .held _ => 1
def uptoBulkAll {H : Type} : List (DataW H) → Nat
  | [] => 0
  | d :: r => uptoBulk d + uptoBulkAll r
def uptoBulkEntries {H : Type} : List (Lit × DataW H) → Nat
  | [] => 0
  | x :: r => uptoBulkEntry x + uptoBulkEntries r
def uptoBulkEntry {H : Type} : Lit × DataW H → Nat
  | (.string bytes, d) => bytes.length + uptoBulk d + 1
  | (_, d) => uptoBulk d + 1
 end
def uptoSmall : (H : Type) → List (DataW H) → Bool := fun _ ds => decide (uptoBulkAll ds ≤ 1048576)
def OpenSpec.upto (s : _root_.Go.ChangeSpec) : _root_.Go.OpenSpec := { _root_.Go.OpenSpec.ofChange s with cond := some uptoSmall }

/-- 'laws.FnExactCheckConstantTime', WHERE WHAT IT READS IS OF BULK AT MOST 1048576: true; the input reads as it did. -/
def fnExactCheckConstantTimeUptoRow : OpenClaim := { program := "ytgpkdfefgcpbiaa", sum := "60e01d767ef6f2323991f174c48aafb590873d99e476ed24e12cea507d26828a", func := "loop.example/constanttime/laws.FnExactCheckConstantTime", spec := "fnExactCheckConstantTime", unfollowed := true, recurses := true, loops := true, apart := false, narrowed := true }
def FnExactCheckConstantTimeUptoSaid : Prop := fnExactCheckConstantTimeUptoRow.holds Try.pinned (OpenSpec.upto fnExactCheckConstantTimeSpec)

/-- 'laws.FnExactFoldExpr', WHERE WHAT IT READS IS OF BULK AT MOST 1048576: true; the input reads as it did. -/
def fnExactFoldExprUptoRow : OpenClaim := { program := "ytgpkdfefgcpbiaa", sum := "60e01d767ef6f2323991f174c48aafb590873d99e476ed24e12cea507d26828a", func := "loop.example/constanttime/laws.FnExactFoldExpr", spec := "fnExactFoldExpr", unfollowed := true, recurses := true, loops := true, apart := false, narrowed := true }
def FnExactFoldExprUptoSaid : Prop := fnExactFoldExprUptoRow.holds Try.pinned (OpenSpec.upto fnExactFoldExprSpec)

/-- 'laws.FnExactRaiseLabels', WHERE WHAT IT READS IS OF BULK AT MOST 1048576: true; the input reads as it did. -/
def fnExactRaiseLabelsUptoRow : OpenClaim := { program := "ytgpkdfefgcpbiaa", sum := "60e01d767ef6f2323991f174c48aafb590873d99e476ed24e12cea507d26828a", func := "loop.example/constanttime/laws.FnExactRaiseLabels", spec := "fnExactRaiseLabels", unfollowed := true, recurses := true, loops := true, apart := false, narrowed := true }
def FnExactRaiseLabelsUptoSaid : Prop := fnExactRaiseLabelsUptoRow.holds Try.pinned (OpenSpec.upto fnExactRaiseLabelsSpec)

/-- 'laws.FnExactCompileMap', WHERE WHAT IT READS IS OF BULK AT MOST 1048576: true; the input reads as it did. -/
def fnExactCompileMapUptoRow : OpenClaim := { program := "ytgpkdfefgcpbiaa", sum := "60e01d767ef6f2323991f174c48aafb590873d99e476ed24e12cea507d26828a", func := "loop.example/constanttime/laws.FnExactCompileMap", spec := "fnExactCompileMap", unfollowed := true, recurses := true, loops := true, apart := false, narrowed := true }
def FnExactCompileMapUptoSaid : Prop := fnExactCompileMapUptoRow.holds Try.pinned (OpenSpec.upto fnExactCompileMapSpec)

/-- 'laws.FnExactPublicPart', WHERE WHAT IT READS IS OF BULK AT MOST 1048576: true; the input reads as it did. -/
def fnExactPublicPartUptoRow : OpenClaim := { program := "ytgpkdfefgcpbiaa", sum := "60e01d767ef6f2323991f174c48aafb590873d99e476ed24e12cea507d26828a", func := "loop.example/constanttime/laws.FnExactPublicPart", spec := "fnExactPublicPart", unfollowed := true, recurses := true, loops := true, apart := false, narrowed := true }
def FnExactPublicPartUptoSaid : Prop := fnExactPublicPartUptoRow.holds Try.pinned (OpenSpec.upto fnExactPublicPartSpec)

/-- 'laws.FnExactTrustedPart', WHERE WHAT IT READS IS OF BULK AT MOST 1048576: true; the input reads as it did. -/
def fnExactTrustedPartUptoRow : OpenClaim := { program := "ytgpkdfefgcpbiaa", sum := "60e01d767ef6f2323991f174c48aafb590873d99e476ed24e12cea507d26828a", func := "loop.example/constanttime/laws.FnExactTrustedPart", spec := "fnExactTrustedPart", unfollowed := true, recurses := true, loops := true, apart := false, narrowed := true }
def FnExactTrustedPartUptoSaid : Prop := fnExactTrustedPartUptoRow.holds Try.pinned (OpenSpec.upto fnExactTrustedPartSpec)

/-- 'laws.FnExactRestrictMemory', WHERE WHAT IT READS IS OF BULK AT MOST 1048576: true; the input reads as it did. -/
def fnExactRestrictMemoryUptoRow : OpenClaim := { program := "ytgpkdfefgcpbiaa", sum := "60e01d767ef6f2323991f174c48aafb590873d99e476ed24e12cea507d26828a", func := "loop.example/constanttime/laws.FnExactRestrictMemory", spec := "fnExactRestrictMemory", unfollowed := true, recurses := true, loops := true, apart := false, narrowed := true }
def FnExactRestrictMemoryUptoSaid : Prop := fnExactRestrictMemoryUptoRow.holds Try.pinned (OpenSpec.upto fnExactRestrictMemorySpec)

/-- 'laws.FnExactExtendMemory', WHERE WHAT IT READS IS OF BULK AT MOST 1048576: true; the input reads as it did. -/
def fnExactExtendMemoryUptoRow : OpenClaim := { program := "ytgpkdfefgcpbiaa", sum := "60e01d767ef6f2323991f174c48aafb590873d99e476ed24e12cea507d26828a", func := "loop.example/constanttime/laws.FnExactExtendMemory", spec := "fnExactExtendMemory", unfollowed := true, recurses := true, loops := true, apart := false, narrowed := true }
def FnExactExtendMemoryUptoSaid : Prop := fnExactExtendMemoryUptoRow.holds Try.pinned (OpenSpec.upto fnExactExtendMemorySpec)

/-- 'laws.FnExactEvalExpr', WHERE WHAT IT READS IS OF BULK AT MOST 1048576: true; the input reads as it did. -/
def fnExactEvalExprUptoRow : OpenClaim := { program := "ytgpkdfefgcpbiaa", sum := "60e01d767ef6f2323991f174c48aafb590873d99e476ed24e12cea507d26828a", func := "loop.example/constanttime/laws.FnExactEvalExpr", spec := "fnExactEvalExpr", unfollowed := true, recurses := true, loops := true, apart := false, narrowed := true }
def FnExactEvalExprUptoSaid : Prop := fnExactEvalExprUptoRow.holds Try.pinned (OpenSpec.upto fnExactEvalExprSpec)

/-- 'laws.FnExactCompileProgram', WHERE WHAT IT READS IS OF BULK AT MOST 1048576: true; the input reads as it did. -/
def fnExactCompileProgramUptoRow : OpenClaim := { program := "ytgpkdfefgcpbiaa", sum := "60e01d767ef6f2323991f174c48aafb590873d99e476ed24e12cea507d26828a", func := "loop.example/constanttime/laws.FnExactCompileProgram", spec := "fnExactCompileProgram", unfollowed := true, recurses := true, loops := true, apart := false, narrowed := true }
def FnExactCompileProgramUptoSaid : Prop := fnExactCompileProgramUptoRow.holds Try.pinned (OpenSpec.upto fnExactCompileProgramSpec)

/-- 'laws.FnExactFoldProgram', WHERE WHAT IT READS IS OF BULK AT MOST 1048576: true; the input reads as it did. -/
def fnExactFoldProgramUptoRow : OpenClaim := { program := "ytgpkdfefgcpbiaa", sum := "60e01d767ef6f2323991f174c48aafb590873d99e476ed24e12cea507d26828a", func := "loop.example/constanttime/laws.FnExactFoldProgram", spec := "fnExactFoldProgram", unfollowed := true, recurses := true, loops := true, apart := false, narrowed := true }
def FnExactFoldProgramUptoSaid : Prop := fnExactFoldProgramUptoRow.holds Try.pinned (OpenSpec.upto fnExactFoldProgramSpec)

/-- 'laws.FnExactInferLabels', WHERE WHAT IT READS IS OF BULK AT MOST 1048576: true; the input reads as it did. -/
def fnExactInferLabelsUptoRow : OpenClaim := { program := "ytgpkdfefgcpbiaa", sum := "60e01d767ef6f2323991f174c48aafb590873d99e476ed24e12cea507d26828a", func := "loop.example/constanttime/laws.FnExactInferLabels", spec := "fnExactInferLabels", unfollowed := true, recurses := true, loops := true, apart := false, narrowed := true }
def FnExactInferLabelsUptoSaid : Prop := fnExactInferLabelsUptoRow.holds Try.pinned (OpenSpec.upto fnExactInferLabelsSpec)

end Rows
end Go.Proofs.Ytgpkdfefgcpbiaa
