/-
  No cell of these rows narrows 'for every input' (looked for: loops, veiled, ifaces, maps, wideKeys, modest, calm, conditions, laid).
  DERIVED. THE GIVEN ROWS OF THIS SEAT. 9 by the template 'for every input the law returns true; each argument reads behind the call as it read before'; 0 by the template 'total and deterministic' (their statements: YtjlnaiifegjneaaTotals.lean).
  GIVEN WITH THE SEED: the statements are not yours to turn. If you find one false, say at which input.
  Laid BY PROGRAM, IN A SANDBOX (cutbox-rows.mjs): the forced cells as the released guide's own fill.sh prints them over the translation 27bc7d86771413d4… (all of the seat's roots in one cut). By AI agents, Wed Nov 11 2026. No macro, syntax, notation, axiom, sorry.
-/
import Derived.Test.YtjlnaiifegjneaaChecked
import GoSem.Claim
import GoSem.ClaimJoined
import GoSem.ClaimMapViews
import Derived.JoinedTies
import Derived.KernelRfl
namespace Go.Proofs.Ytjlnaiifegjneaa
/- THE CELL 'sum', in the pinned program and in every row, IS THE sha256 OF THE DUMP (.gsa) THAT YtjlnaiifegjneaaProg.lean LOADS. Nothing in Lean hashes anything: it is a label: what it is worth is what the hold of that sum in a sandbox is worth. -/
noncomputable def Try.pinned : Pinned := { name := "ytjlnaiifegjneaa", sum := "27bc7d86771413d474aae38ed2dadcbc7f230f77813b6ced597bcbf267bebf6b", checked := Try.checked }
namespace Rows
def none {H : Type} : Left H := { results := [], args := [] }

/-- 'laws.FnExactFormatTaint': WHATEVER THE INPUT: true; the input reads as it did. -/
def fnExactFormatTaintSpec : ChangeSpec := { name := "fnExactFormatTaint", fn := fun _ => fun
  | [d] => { results := [.lit (.bool true)], args := [d] }
  | _ => none }
def fnExactFormatTaintRow : OpenClaim := { program := "ytjlnaiifegjneaa", sum := "27bc7d86771413d474aae38ed2dadcbc7f230f77813b6ced597bcbf267bebf6b", func := "loop.example/constanttime/laws.FnExactFormatTaint", spec := "fnExactFormatTaint", inPlace := ["internal/abi.NoEscape"], apart := false }
def FnExactFormatTaintSaid : Prop := fnExactFormatTaintRow.holds Try.pinned (OpenSpec.ofChange fnExactFormatTaintSpec)

/-- ITS FALSE NEIGHBOUR: 'it returns false'. Refute it at one input. -/
def fnExactFormatTaintWrong : ChangeSpec := { name := "fnExactFormatTaint", fn := fun _ => fun
  | [d] => { results := [.lit (.bool false)], args := [d] }
  | _ => none }
def FnExactFormatTaintWrongFalsely : Prop := fnExactFormatTaintRow.holds Try.pinned (OpenSpec.ofChange fnExactFormatTaintWrong)

/-- 'laws.FnExactCodeReleases': WHATEVER THE INPUT: true; the input reads as it did. -/
def fnExactCodeReleasesSpec : ChangeSpec := { name := "fnExactCodeReleases", fn := fun _ => fun
  | [d] => { results := [.lit (.bool true)], args := [d] }
  | _ => none }
def fnExactCodeReleasesRow : OpenClaim := { program := "ytjlnaiifegjneaa", sum := "27bc7d86771413d474aae38ed2dadcbc7f230f77813b6ced597bcbf267bebf6b", func := "loop.example/constanttime/laws.FnExactCodeReleases", spec := "fnExactCodeReleases", unfollowed := true, recurses := true, apart := false }
def FnExactCodeReleasesSaid : Prop := fnExactCodeReleasesRow.holds Try.pinned (OpenSpec.ofChange fnExactCodeReleasesSpec)

/-- ITS FALSE NEIGHBOUR: 'it returns false'. Refute it at one input. -/
def fnExactCodeReleasesWrong : ChangeSpec := { name := "fnExactCodeReleases", fn := fun _ => fun
  | [d] => { results := [.lit (.bool false)], args := [d] }
  | _ => none }
def FnExactCodeReleasesWrongFalsely : Prop := fnExactCodeReleasesRow.holds Try.pinned (OpenSpec.ofChange fnExactCodeReleasesWrong)

/-- 'laws.FnExactReachableCode': WHATEVER THE INPUT: true; the input reads as it did. -/
def fnExactReachableCodeSpec : ChangeSpec := { name := "fnExactReachableCode", fn := fun _ => fun
  | [d] => { results := [.lit (.bool true)], args := [d] }
  | _ => none }
def fnExactReachableCodeRow : OpenClaim := { program := "ytjlnaiifegjneaa", sum := "27bc7d86771413d474aae38ed2dadcbc7f230f77813b6ced597bcbf267bebf6b", func := "loop.example/constanttime/laws.FnExactReachableCode", spec := "fnExactReachableCode", unfollowed := true, recurses := true, apart := false }
def FnExactReachableCodeSaid : Prop := fnExactReachableCodeRow.holds Try.pinned (OpenSpec.ofChange fnExactReachableCodeSpec)

/-- ITS FALSE NEIGHBOUR: 'it returns false'. Refute it at one input. -/
def fnExactReachableCodeWrong : ChangeSpec := { name := "fnExactReachableCode", fn := fun _ => fun
  | [d] => { results := [.lit (.bool false)], args := [d] }
  | _ => none }
def FnExactReachableCodeWrongFalsely : Prop := fnExactReachableCodeRow.holds Try.pinned (OpenSpec.ofChange fnExactReachableCodeWrong)

/-- 'laws.FnExactThreadJumps': WHATEVER THE INPUT: true; the input reads as it did. -/
def fnExactThreadJumpsSpec : ChangeSpec := { name := "fnExactThreadJumps", fn := fun _ => fun
  | [d] => { results := [.lit (.bool true)], args := [d] }
  | _ => none }
def fnExactThreadJumpsRow : OpenClaim := { program := "ytjlnaiifegjneaa", sum := "27bc7d86771413d474aae38ed2dadcbc7f230f77813b6ced597bcbf267bebf6b", func := "loop.example/constanttime/laws.FnExactThreadJumps", spec := "fnExactThreadJumps", unfollowed := true, recurses := true, apart := false }
def FnExactThreadJumpsSaid : Prop := fnExactThreadJumpsRow.holds Try.pinned (OpenSpec.ofChange fnExactThreadJumpsSpec)

/-- ITS FALSE NEIGHBOUR: 'it returns false'. Refute it at one input. -/
def fnExactThreadJumpsWrong : ChangeSpec := { name := "fnExactThreadJumps", fn := fun _ => fun
  | [d] => { results := [.lit (.bool false)], args := [d] }
  | _ => none }
def FnExactThreadJumpsWrongFalsely : Prop := fnExactThreadJumpsRow.holds Try.pinned (OpenSpec.ofChange fnExactThreadJumpsWrong)

/-- 'laws.FnExactCheckCode': WHATEVER THE INPUT: true; the input reads as it did. -/
def fnExactCheckCodeSpec : ChangeSpec := { name := "fnExactCheckCode", fn := fun _ => fun
  | [d] => { results := [.lit (.bool true)], args := [d] }
  | _ => none }
def fnExactCheckCodeRow : OpenClaim := { program := "ytjlnaiifegjneaa", sum := "27bc7d86771413d474aae38ed2dadcbc7f230f77813b6ced597bcbf267bebf6b", func := "loop.example/constanttime/laws.FnExactCheckCode", spec := "fnExactCheckCode", unfollowed := true, recurses := true, apart := false }
def FnExactCheckCodeSaid : Prop := fnExactCheckCodeRow.holds Try.pinned (OpenSpec.ofChange fnExactCheckCodeSpec)

/-- ITS FALSE NEIGHBOUR: 'it returns false'. Refute it at one input. -/
def fnExactCheckCodeWrong : ChangeSpec := { name := "fnExactCheckCode", fn := fun _ => fun
  | [d] => { results := [.lit (.bool false)], args := [d] }
  | _ => none }
def FnExactCheckCodeWrongFalsely : Prop := fnExactCheckCodeRow.holds Try.pinned (OpenSpec.ofChange fnExactCheckCodeWrong)

/-- 'laws.FnExactCheckTaint': WHATEVER THE INPUT: true; the input reads as it did. -/
def fnExactCheckTaintSpec : ChangeSpec := { name := "fnExactCheckTaint", fn := fun _ => fun
  | [d1, d2] => { results := [.lit (.bool true)], args := [d1, d2] }
  | _ => none }
def fnExactCheckTaintRow : OpenClaim := { program := "ytjlnaiifegjneaa", sum := "27bc7d86771413d474aae38ed2dadcbc7f230f77813b6ced597bcbf267bebf6b", func := "loop.example/constanttime/laws.FnExactCheckTaint", spec := "fnExactCheckTaint", unfollowed := true, recurses := true, apart := false }
def FnExactCheckTaintSaid : Prop := fnExactCheckTaintRow.holds Try.pinned (OpenSpec.ofChange fnExactCheckTaintSpec)

/-- ITS FALSE NEIGHBOUR: 'it returns false'. Refute it at one input. -/
def fnExactCheckTaintWrong : ChangeSpec := { name := "fnExactCheckTaint", fn := fun _ => fun
  | [d1, d2] => { results := [.lit (.bool false)], args := [d1, d2] }
  | _ => none }
def FnExactCheckTaintWrongFalsely : Prop := fnExactCheckTaintRow.holds Try.pinned (OpenSpec.ofChange fnExactCheckTaintWrong)

/-- 'laws.FnExactTrimCode': WHATEVER THE INPUT: true; the input reads as it did. -/
def fnExactTrimCodeSpec : ChangeSpec := { name := "fnExactTrimCode", fn := fun _ => fun
  | [d] => { results := [.lit (.bool true)], args := [d] }
  | _ => none }
def fnExactTrimCodeRow : OpenClaim := { program := "ytjlnaiifegjneaa", sum := "27bc7d86771413d474aae38ed2dadcbc7f230f77813b6ced597bcbf267bebf6b", func := "loop.example/constanttime/laws.FnExactTrimCode", spec := "fnExactTrimCode", unfollowed := true, recurses := true, apart := false }
def FnExactTrimCodeSaid : Prop := fnExactTrimCodeRow.holds Try.pinned (OpenSpec.ofChange fnExactTrimCodeSpec)

/-- ITS FALSE NEIGHBOUR: 'it returns false'. Refute it at one input. -/
def fnExactTrimCodeWrong : ChangeSpec := { name := "fnExactTrimCode", fn := fun _ => fun
  | [d] => { results := [.lit (.bool false)], args := [d] }
  | _ => none }
def FnExactTrimCodeWrongFalsely : Prop := fnExactTrimCodeRow.holds Try.pinned (OpenSpec.ofChange fnExactTrimCodeWrong)

/-- 'laws.FnExactInferTaint': WHATEVER THE INPUT: true; the input reads as it did. -/
def fnExactInferTaintSpec : ChangeSpec := { name := "fnExactInferTaint", fn := fun _ => fun
  | [d] => { results := [.lit (.bool true)], args := [d] }
  | _ => none }
def fnExactInferTaintRow : OpenClaim := { program := "ytjlnaiifegjneaa", sum := "27bc7d86771413d474aae38ed2dadcbc7f230f77813b6ced597bcbf267bebf6b", func := "loop.example/constanttime/laws.FnExactInferTaint", spec := "fnExactInferTaint", unfollowed := true, recurses := true, apart := false }
def FnExactInferTaintSaid : Prop := fnExactInferTaintRow.holds Try.pinned (OpenSpec.ofChange fnExactInferTaintSpec)

/-- ITS FALSE NEIGHBOUR: 'it returns false'. Refute it at one input. -/
def fnExactInferTaintWrong : ChangeSpec := { name := "fnExactInferTaint", fn := fun _ => fun
  | [d] => { results := [.lit (.bool false)], args := [d] }
  | _ => none }
def FnExactInferTaintWrongFalsely : Prop := fnExactInferTaintRow.holds Try.pinned (OpenSpec.ofChange fnExactInferTaintWrong)

/-- 'laws.FnExactOptimizeCode': WHATEVER THE INPUT: true; the input reads as it did. -/
def fnExactOptimizeCodeSpec : ChangeSpec := { name := "fnExactOptimizeCode", fn := fun _ => fun
  | [d] => { results := [.lit (.bool true)], args := [d] }
  | _ => none }
def fnExactOptimizeCodeRow : OpenClaim := { program := "ytjlnaiifegjneaa", sum := "27bc7d86771413d474aae38ed2dadcbc7f230f77813b6ced597bcbf267bebf6b", func := "loop.example/constanttime/laws.FnExactOptimizeCode", spec := "fnExactOptimizeCode", unfollowed := true, recurses := true, apart := false }
def FnExactOptimizeCodeSaid : Prop := fnExactOptimizeCodeRow.holds Try.pinned (OpenSpec.ofChange fnExactOptimizeCodeSpec)

/-- ITS FALSE NEIGHBOUR: 'it returns false'. Refute it at one input. -/
def fnExactOptimizeCodeWrong : ChangeSpec := { name := "fnExactOptimizeCode", fn := fun _ => fun
  | [d] => { results := [.lit (.bool false)], args := [d] }
  | _ => none }
def FnExactOptimizeCodeWrongFalsely : Prop := fnExactOptimizeCodeRow.holds Try.pinned (OpenSpec.ofChange fnExactOptimizeCodeWrong)

/- THE SECOND FORM. 'bulk': how many values and letters a reading holds, each counted each time it is reached (what is shared counts as often as it is met; a slice's spare places count too). A statement '..UptoSaid' is the law's where the arguments, and the package variables that the reading takes, are together of bulk at most 1048576: NARROWER than '..Said'. Prove '..Said' where nothing that the law and all that it calls make is longer than what came in: it says more and counts as full. Else prove '..UptoSaid'. A law counts once. -/
mutual
def uptoBulk {H : Type} : DataW H → Nat
  | .lit (.string bytes) => bytes.length + 1
  | .lit _ => 1
  | .nil => 1
  | .ptr d => uptoBulk d + 1
  | .slice elems spare => uptoBulkAll elems + uptoBulkAll spare + 1
  | .agg parts => uptoBulkAll parts + 1
  | .iface _ d => uptoBulk d + 1
  | .map entries => uptoBulkEntries entries + 1
  | .held _ => 1
def uptoBulkAll {H : Type} : List (DataW H) → Nat
  | [] => 0
  | d :: r => uptoBulk d + uptoBulkAll r
def uptoBulkEntries {H : Type} : List (Lit × DataW H) → Nat
  | [] => 0
  | x :: r => uptoBulkEntry x + uptoBulkEntries r
def uptoBulkEntry {H : Type} : Lit × DataW H → Nat
  | (.string bytes, d) => bytes.length + uptoBulk d + 1
  | (_, d) => uptoBulk d + 1
 end
def uptoSmall : (H : Type) → List (DataW H) → Bool := fun _ ds => decide (uptoBulkAll ds ≤ 1048576)
def OpenSpec.upto (s : _root_.Go.ChangeSpec) : _root_.Go.OpenSpec := { _root_.Go.OpenSpec.ofChange s with cond := some uptoSmall }

/-- 'laws.FnExactFormatTaint', WHERE WHAT IT READS IS OF BULK AT MOST 1048576: true; the input reads as it did. -/
def fnExactFormatTaintUptoRow : OpenClaim := { program := "ytjlnaiifegjneaa", sum := "27bc7d86771413d474aae38ed2dadcbc7f230f77813b6ced597bcbf267bebf6b", func := "loop.example/constanttime/laws.FnExactFormatTaint", spec := "fnExactFormatTaint", inPlace := ["internal/abi.NoEscape"], apart := false, narrowed := true }
def FnExactFormatTaintUptoSaid : Prop := fnExactFormatTaintUptoRow.holds Try.pinned (OpenSpec.upto fnExactFormatTaintSpec)

/-- 'laws.FnExactCodeReleases', WHERE WHAT IT READS IS OF BULK AT MOST 1048576: true; the input reads as it did. -/
def fnExactCodeReleasesUptoRow : OpenClaim := { program := "ytjlnaiifegjneaa", sum := "27bc7d86771413d474aae38ed2dadcbc7f230f77813b6ced597bcbf267bebf6b", func := "loop.example/constanttime/laws.FnExactCodeReleases", spec := "fnExactCodeReleases", unfollowed := true, recurses := true, apart := false, narrowed := true }
def FnExactCodeReleasesUptoSaid : Prop := fnExactCodeReleasesUptoRow.holds Try.pinned (OpenSpec.upto fnExactCodeReleasesSpec)

/-- 'laws.FnExactReachableCode', WHERE WHAT IT READS IS OF BULK AT MOST 1048576: true; the input reads as it did. -/
def fnExactReachableCodeUptoRow : OpenClaim := { program := "ytjlnaiifegjneaa", sum := "27bc7d86771413d474aae38ed2dadcbc7f230f77813b6ced597bcbf267bebf6b", func := "loop.example/constanttime/laws.FnExactReachableCode", spec := "fnExactReachableCode", unfollowed := true, recurses := true, apart := false, narrowed := true }
def FnExactReachableCodeUptoSaid : Prop := fnExactReachableCodeUptoRow.holds Try.pinned (OpenSpec.upto fnExactReachableCodeSpec)

/-- 'laws.FnExactThreadJumps', WHERE WHAT IT READS IS OF BULK AT MOST 1048576: true; the input reads as it did. -/
def fnExactThreadJumpsUptoRow : OpenClaim := { program := "ytjlnaiifegjneaa", sum := "27bc7d86771413d474aae38ed2dadcbc7f230f77813b6ced597bcbf267bebf6b", func := "loop.example/constanttime/laws.FnExactThreadJumps", spec := "fnExactThreadJumps", unfollowed := true, recurses := true, apart := false, narrowed := true }
def FnExactThreadJumpsUptoSaid : Prop := fnExactThreadJumpsUptoRow.holds Try.pinned (OpenSpec.upto fnExactThreadJumpsSpec)

/-- 'laws.FnExactCheckCode', WHERE WHAT IT READS IS OF BULK AT MOST 1048576: true; the input reads as it did. -/
def fnExactCheckCodeUptoRow : OpenClaim := { program := "ytjlnaiifegjneaa", sum := "27bc7d86771413d474aae38ed2dadcbc7f230f77813b6ced597bcbf267bebf6b", func := "loop.example/constanttime/laws.FnExactCheckCode", spec := "fnExactCheckCode", unfollowed := true, recurses := true, apart := false, narrowed := true }
def FnExactCheckCodeUptoSaid : Prop := fnExactCheckCodeUptoRow.holds Try.pinned (OpenSpec.upto fnExactCheckCodeSpec)

/-- 'laws.FnExactCheckTaint', WHERE WHAT IT READS IS OF BULK AT MOST 1048576: true; the input reads as it did. -/
def fnExactCheckTaintUptoRow : OpenClaim := { program := "ytjlnaiifegjneaa", sum := "27bc7d86771413d474aae38ed2dadcbc7f230f77813b6ced597bcbf267bebf6b", func := "loop.example/constanttime/laws.FnExactCheckTaint", spec := "fnExactCheckTaint", unfollowed := true, recurses := true, apart := false, narrowed := true }
def FnExactCheckTaintUptoSaid : Prop := fnExactCheckTaintUptoRow.holds Try.pinned (OpenSpec.upto fnExactCheckTaintSpec)

/-- 'laws.FnExactTrimCode', WHERE WHAT IT READS IS OF BULK AT MOST 1048576: true; the input reads as it did. -/
def fnExactTrimCodeUptoRow : OpenClaim := { program := "ytjlnaiifegjneaa", sum := "27bc7d86771413d474aae38ed2dadcbc7f230f77813b6ced597bcbf267bebf6b", func := "loop.example/constanttime/laws.FnExactTrimCode", spec := "fnExactTrimCode", unfollowed := true, recurses := true, apart := false, narrowed := true }
def FnExactTrimCodeUptoSaid : Prop := fnExactTrimCodeUptoRow.holds Try.pinned (OpenSpec.upto fnExactTrimCodeSpec)

/-- 'laws.FnExactInferTaint', WHERE WHAT IT READS IS OF BULK AT MOST 1048576: true; the input reads as it did. -/
def fnExactInferTaintUptoRow : OpenClaim := { program := "ytjlnaiifegjneaa", sum := "27bc7d86771413d474aae38ed2dadcbc7f230f77813b6ced597bcbf267bebf6b", func := "loop.example/constanttime/laws.FnExactInferTaint", spec := "fnExactInferTaint", unfollowed := true, recurses := true, apart := false, narrowed := true }
def FnExactInferTaintUptoSaid : Prop := fnExactInferTaintUptoRow.holds Try.pinned (OpenSpec.upto fnExactInferTaintSpec)

/-- 'laws.FnExactOptimizeCode', WHERE WHAT IT READS IS OF BULK AT MOST 1048576: true; the input reads as it did. -/
def fnExactOptimizeCodeUptoRow : OpenClaim := { program := "ytjlnaiifegjneaa", sum := "27bc7d86771413d474aae38ed2dadcbc7f230f77813b6ced597bcbf267bebf6b", func := "loop.example/constanttime/laws.FnExactOptimizeCode", spec := "fnExactOptimizeCode", unfollowed := true, recurses := true, apart := false, narrowed := true }
def FnExactOptimizeCodeUptoSaid : Prop := fnExactOptimizeCodeUptoRow.holds Try.pinned (OpenSpec.upto fnExactOptimizeCodeSpec)

end Rows
end Go.Proofs.Ytjlnaiifegjneaa
