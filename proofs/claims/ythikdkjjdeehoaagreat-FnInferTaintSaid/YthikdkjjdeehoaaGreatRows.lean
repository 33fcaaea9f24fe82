/-
  NARROWER THAN 'FOR EVERY INPUT', by the rows' own cells (each row's printed sentence says how): FnExactLinearize: loops · FnExactCompileSecure: loops.
  DERIVED. THE GIVEN ROWS OF THIS SEAT. 12 by the template 'for every input the law returns true; each argument reads behind the call as it read before'; 0 by the template 'total and deterministic' (their statements: YthikdkjjdeehoaaGreatTotals.lean).
  GIVEN WITH THE SEED: the statements are not yours to turn. If you find one false, say at which input.
  Laid BY PROGRAM, IN A SANDBOX (cutbox-rows.mjs): the forced cells as the released guide's own fill.sh prints them over the translation 8c5232c99f5d140a… (all of the seat's roots in one cut). By AI agents, Wed Nov 11 2026. No macro, syntax, notation, axiom, sorry.
-/
import Derived.Test.YthikdkjjdeehoaaGreatChecked
import GoSem.Claim
import GoSem.ClaimJoined
import GoSem.ClaimMapViews
import Derived.JoinedTies
import Derived.KernelRfl
namespace Go.Proofs.YthikdkjjdeehoaaGreat
/- THE CELL 'sum', in the pinned program and in every row, IS THE sha256 OF THE DUMP (.gsa) THAT YthikdkjjdeehoaaGreatProg.lean LOADS. Nothing in Lean hashes anything: it is a label: what it is worth is what the hold of that sum in a sandbox is worth. -/
noncomputable def Tryz.pinned : Pinned := { name := "ythikdkjjdeehoaagreat", sum := "8c5232c99f5d140a0d47e90dad6973e89d3f0ba3c7d9a7614483617da7b99e6c", checked := Tryz.checked }
namespace Rows
def none {H : Type} : Left H := { results := [], args := [] }

/-- 'laws.FnFoldFlow': WHATEVER THE INPUT: true; the input reads as it did. -/
def fnFoldFlowSpec : ChangeSpec := { name := "fnFoldFlow", fn := fun _ => fun
  | [d] => { results := [.lit (.bool true)], args := [d] }
  | _ => none }
def fnFoldFlowRow : OpenClaim := { program := "ythikdkjjdeehoaagreat", sum := "8c5232c99f5d140a0d47e90dad6973e89d3f0ba3c7d9a7614483617da7b99e6c", func := "loop.example/constanttime/laws.FnFoldFlow", spec := "fnFoldFlow", unfollowed := true, recurses := true, apart := false }
def FnFoldFlowSaid : Prop := fnFoldFlowRow.holds Tryz.pinned (OpenSpec.ofChange fnFoldFlowSpec)

/-- ITS FALSE NEIGHBOUR: 'it returns false'. Refute it at one input. -/
def fnFoldFlowWrong : ChangeSpec := { name := "fnFoldFlow", fn := fun _ => fun
  | [d] => { results := [.lit (.bool false)], args := [d] }
  | _ => none }
def FnFoldFlowWrongFalsely : Prop := fnFoldFlowRow.holds Tryz.pinned (OpenSpec.ofChange fnFoldFlowWrong)

/-- 'laws.FnVerifyCompile': WHATEVER THE INPUT: true; the input reads as it did. -/
def fnVerifyCompileSpec : ChangeSpec := { name := "fnVerifyCompile", fn := fun _ => fun
  | [d] => { results := [.lit (.bool true)], args := [d] }
  | _ => none }
def fnVerifyCompileRow : OpenClaim := { program := "ythikdkjjdeehoaagreat", sum := "8c5232c99f5d140a0d47e90dad6973e89d3f0ba3c7d9a7614483617da7b99e6c", func := "loop.example/constanttime/laws.FnVerifyCompile", spec := "fnVerifyCompile", unfollowed := true, recurses := true, apart := false }
def FnVerifyCompileSaid : Prop := fnVerifyCompileRow.holds Tryz.pinned (OpenSpec.ofChange fnVerifyCompileSpec)

/-- ITS FALSE NEIGHBOUR: 'it returns false'. Refute it at one input. -/
def fnVerifyCompileWrong : ChangeSpec := { name := "fnVerifyCompile", fn := fun _ => fun
  | [d] => { results := [.lit (.bool false)], args := [d] }
  | _ => none }
def FnVerifyCompileWrongFalsely : Prop := fnVerifyCompileRow.holds Tryz.pinned (OpenSpec.ofChange fnVerifyCompileWrong)

/-- 'laws.FnExactLinearize': WHATEVER THE INPUT: true; the input reads as it did. -/
def fnExactLinearizeSpec : ChangeSpec := { name := "fnExactLinearize", fn := fun _ => fun
  | [d] => { results := [.lit (.bool true)], args := [d] }
  | _ => none }
def fnExactLinearizeRow : OpenClaim := { program := "ythikdkjjdeehoaagreat", sum := "8c5232c99f5d140a0d47e90dad6973e89d3f0ba3c7d9a7614483617da7b99e6c", func := "loop.example/constanttime/laws.FnExactLinearize", spec := "fnExactLinearize", unfollowed := true, recurses := true, loops := true, apart := false }
def FnExactLinearizeSaid : Prop := fnExactLinearizeRow.holds Tryz.pinned (OpenSpec.ofChange fnExactLinearizeSpec)

/-- ITS FALSE NEIGHBOUR: 'it returns false'. Refute it at one input. -/
def fnExactLinearizeWrong : ChangeSpec := { name := "fnExactLinearize", fn := fun _ => fun
  | [d] => { results := [.lit (.bool false)], args := [d] }
  | _ => none }
def FnExactLinearizeWrongFalsely : Prop := fnExactLinearizeRow.holds Tryz.pinned (OpenSpec.ofChange fnExactLinearizeWrong)

/-- 'laws.FnExactCompileSecure': WHATEVER THE INPUT: true; the input reads as it did. -/
def fnExactCompileSecureSpec : ChangeSpec := { name := "fnExactCompileSecure", fn := fun _ => fun
  | [d] => { results := [.lit (.bool true)], args := [d] }
  | _ => none }
def fnExactCompileSecureRow : OpenClaim := { program := "ythikdkjjdeehoaagreat", sum := "8c5232c99f5d140a0d47e90dad6973e89d3f0ba3c7d9a7614483617da7b99e6c", func := "loop.example/constanttime/laws.FnExactCompileSecure", spec := "fnExactCompileSecure", unfollowed := true, recurses := true, loops := true, apart := false }
def FnExactCompileSecureSaid : Prop := fnExactCompileSecureRow.holds Tryz.pinned (OpenSpec.ofChange fnExactCompileSecureSpec)

/-- ITS FALSE NEIGHBOUR: 'it returns false'. Refute it at one input. -/
def fnExactCompileSecureWrong : ChangeSpec := { name := "fnExactCompileSecure", fn := fun _ => fun
  | [d] => { results := [.lit (.bool false)], args := [d] }
  | _ => none }
def FnExactCompileSecureWrongFalsely : Prop := fnExactCompileSecureRow.holds Tryz.pinned (OpenSpec.ofChange fnExactCompileSecureWrong)

/-- 'laws.FnLinearize': WHATEVER THE INPUT: true; the input reads as it did. -/
def fnLinearizeSpec : ChangeSpec := { name := "fnLinearize", fn := fun _ => fun
  | [d] => { results := [.lit (.bool true)], args := [d] }
  | _ => none }
def fnLinearizeRow : OpenClaim := { program := "ythikdkjjdeehoaagreat", sum := "8c5232c99f5d140a0d47e90dad6973e89d3f0ba3c7d9a7614483617da7b99e6c", func := "loop.example/constanttime/laws.FnLinearize", spec := "fnLinearize", unfollowed := true, recurses := true, apart := false }
def FnLinearizeSaid : Prop := fnLinearizeRow.holds Tryz.pinned (OpenSpec.ofChange fnLinearizeSpec)

/-- ITS FALSE NEIGHBOUR: 'it returns false'. Refute it at one input. -/
def fnLinearizeWrong : ChangeSpec := { name := "fnLinearize", fn := fun _ => fun
  | [d] => { results := [.lit (.bool false)], args := [d] }
  | _ => none }
def FnLinearizeWrongFalsely : Prop := fnLinearizeRow.holds Tryz.pinned (OpenSpec.ofChange fnLinearizeWrong)

/-- 'laws.FnLinearizeFixed': WHATEVER THE INPUT: true; the input reads as it did. -/
def fnLinearizeFixedSpec : ChangeSpec := { name := "fnLinearizeFixed", fn := fun _ => fun
  | [d] => { results := [.lit (.bool true)], args := [d] }
  | _ => none }
def fnLinearizeFixedRow : OpenClaim := { program := "ythikdkjjdeehoaagreat", sum := "8c5232c99f5d140a0d47e90dad6973e89d3f0ba3c7d9a7614483617da7b99e6c", func := "loop.example/constanttime/laws.FnLinearizeFixed", spec := "fnLinearizeFixed", unfollowed := true, recurses := true, apart := false }
def FnLinearizeFixedSaid : Prop := fnLinearizeFixedRow.holds Tryz.pinned (OpenSpec.ofChange fnLinearizeFixedSpec)

/-- ITS FALSE NEIGHBOUR: 'it returns false'. Refute it at one input. -/
def fnLinearizeFixedWrong : ChangeSpec := { name := "fnLinearizeFixed", fn := fun _ => fun
  | [d] => { results := [.lit (.bool false)], args := [d] }
  | _ => none }
def FnLinearizeFixedWrongFalsely : Prop := fnLinearizeFixedRow.holds Tryz.pinned (OpenSpec.ofChange fnLinearizeFixedWrong)

/-- 'laws.FnVerifyRaise': WHATEVER THE INPUT: true; the input reads as it did. -/
def fnVerifyRaiseSpec : ChangeSpec := { name := "fnVerifyRaise", fn := fun _ => fun
  | [d] => { results := [.lit (.bool true)], args := [d] }
  | _ => none }
def fnVerifyRaiseRow : OpenClaim := { program := "ythikdkjjdeehoaagreat", sum := "8c5232c99f5d140a0d47e90dad6973e89d3f0ba3c7d9a7614483617da7b99e6c", func := "loop.example/constanttime/laws.FnVerifyRaise", spec := "fnVerifyRaise", unfollowed := true, recurses := true, apart := false }
def FnVerifyRaiseSaid : Prop := fnVerifyRaiseRow.holds Tryz.pinned (OpenSpec.ofChange fnVerifyRaiseSpec)

/-- ITS FALSE NEIGHBOUR: 'it returns false'. Refute it at one input. -/
def fnVerifyRaiseWrong : ChangeSpec := { name := "fnVerifyRaise", fn := fun _ => fun
  | [d] => { results := [.lit (.bool false)], args := [d] }
  | _ => none }
def FnVerifyRaiseWrongFalsely : Prop := fnVerifyRaiseRow.holds Tryz.pinned (OpenSpec.ofChange fnVerifyRaiseWrong)

/-- 'laws.FnVerifyDistrust': WHATEVER THE INPUT: true; the input reads as it did. -/
def fnVerifyDistrustSpec : ChangeSpec := { name := "fnVerifyDistrust", fn := fun _ => fun
  | [d] => { results := [.lit (.bool true)], args := [d] }
  | _ => none }
def fnVerifyDistrustRow : OpenClaim := { program := "ythikdkjjdeehoaagreat", sum := "8c5232c99f5d140a0d47e90dad6973e89d3f0ba3c7d9a7614483617da7b99e6c", func := "loop.example/constanttime/laws.FnVerifyDistrust", spec := "fnVerifyDistrust", unfollowed := true, recurses := true, apart := false }
def FnVerifyDistrustSaid : Prop := fnVerifyDistrustRow.holds Tryz.pinned (OpenSpec.ofChange fnVerifyDistrustSpec)

/-- ITS FALSE NEIGHBOUR: 'it returns false'. Refute it at one input. -/
def fnVerifyDistrustWrong : ChangeSpec := { name := "fnVerifyDistrust", fn := fun _ => fun
  | [d] => { results := [.lit (.bool false)], args := [d] }
  | _ => none }
def FnVerifyDistrustWrongFalsely : Prop := fnVerifyDistrustRow.holds Tryz.pinned (OpenSpec.ofChange fnVerifyDistrustWrong)

/-- 'laws.FnTaintReach': WHATEVER THE INPUT: true; the input reads as it did. -/
def fnTaintReachSpec : ChangeSpec := { name := "fnTaintReach", fn := fun _ => fun
  | [d] => { results := [.lit (.bool true)], args := [d] }
  | _ => none }
def fnTaintReachRow : OpenClaim := { program := "ythikdkjjdeehoaagreat", sum := "8c5232c99f5d140a0d47e90dad6973e89d3f0ba3c7d9a7614483617da7b99e6c", func := "loop.example/constanttime/laws.FnTaintReach", spec := "fnTaintReach", unfollowed := true, recurses := true, apart := false }
def FnTaintReachSaid : Prop := fnTaintReachRow.holds Tryz.pinned (OpenSpec.ofChange fnTaintReachSpec)

/-- ITS FALSE NEIGHBOUR: 'it returns false'. Refute it at one input. -/
def fnTaintReachWrong : ChangeSpec := { name := "fnTaintReach", fn := fun _ => fun
  | [d] => { results := [.lit (.bool false)], args := [d] }
  | _ => none }
def FnTaintReachWrongFalsely : Prop := fnTaintReachRow.holds Tryz.pinned (OpenSpec.ofChange fnTaintReachWrong)

/-- 'laws.FnInferTaint': WHATEVER THE INPUT: true; the input reads as it did. -/
def fnInferTaintSpec : ChangeSpec := { name := "fnInferTaint", fn := fun _ => fun
  | [d] => { results := [.lit (.bool true)], args := [d] }
  | _ => none }
def fnInferTaintRow : OpenClaim := { program := "ythikdkjjdeehoaagreat", sum := "8c5232c99f5d140a0d47e90dad6973e89d3f0ba3c7d9a7614483617da7b99e6c", func := "loop.example/constanttime/laws.FnInferTaint", spec := "fnInferTaint", unfollowed := true, recurses := true, apart := false }
def FnInferTaintSaid : Prop := fnInferTaintRow.holds Tryz.pinned (OpenSpec.ofChange fnInferTaintSpec)

/-- ITS FALSE NEIGHBOUR: 'it returns false'. Refute it at one input. -/
def fnInferTaintWrong : ChangeSpec := { name := "fnInferTaint", fn := fun _ => fun
  | [d] => { results := [.lit (.bool false)], args := [d] }
  | _ => none }
def FnInferTaintWrongFalsely : Prop := fnInferTaintRow.holds Tryz.pinned (OpenSpec.ofChange fnInferTaintWrong)

/-- 'laws.FnVerifyOptimize': WHATEVER THE INPUT: true; the input reads as it did. -/
def fnVerifyOptimizeSpec : ChangeSpec := { name := "fnVerifyOptimize", fn := fun _ => fun
  | [d] => { results := [.lit (.bool true)], args := [d] }
  | _ => none }
def fnVerifyOptimizeRow : OpenClaim := { program := "ythikdkjjdeehoaagreat", sum := "8c5232c99f5d140a0d47e90dad6973e89d3f0ba3c7d9a7614483617da7b99e6c", func := "loop.example/constanttime/laws.FnVerifyOptimize", spec := "fnVerifyOptimize", unfollowed := true, recurses := true, apart := false }
def FnVerifyOptimizeSaid : Prop := fnVerifyOptimizeRow.holds Tryz.pinned (OpenSpec.ofChange fnVerifyOptimizeSpec)

/-- ITS FALSE NEIGHBOUR: 'it returns false'. Refute it at one input. -/
def fnVerifyOptimizeWrong : ChangeSpec := { name := "fnVerifyOptimize", fn := fun _ => fun
  | [d] => { results := [.lit (.bool false)], args := [d] }
  | _ => none }
def FnVerifyOptimizeWrongFalsely : Prop := fnVerifyOptimizeRow.holds Tryz.pinned (OpenSpec.ofChange fnVerifyOptimizeWrong)

/-- 'laws.FnCheckTaint': WHATEVER THE INPUT: true; the input reads as it did. -/
def fnCheckTaintSpec : ChangeSpec := { name := "fnCheckTaint", fn := fun _ => fun
  | [d] => { results := [.lit (.bool true)], args := [d] }
  | _ => none }
def fnCheckTaintRow : OpenClaim := { program := "ythikdkjjdeehoaagreat", sum := "8c5232c99f5d140a0d47e90dad6973e89d3f0ba3c7d9a7614483617da7b99e6c", func := "loop.example/constanttime/laws.FnCheckTaint", spec := "fnCheckTaint", unfollowed := true, recurses := true, apart := false }
def FnCheckTaintSaid : Prop := fnCheckTaintRow.holds Tryz.pinned (OpenSpec.ofChange fnCheckTaintSpec)

/-- ITS FALSE NEIGHBOUR: 'it returns false'. Refute it at one input. -/
def fnCheckTaintWrong : ChangeSpec := { name := "fnCheckTaint", fn := fun _ => fun
  | [d] => { results := [.lit (.bool false)], args := [d] }
  | _ => none }
def FnCheckTaintWrongFalsely : Prop := fnCheckTaintRow.holds Tryz.pinned (OpenSpec.ofChange fnCheckTaintWrong)

/- THE SECOND FORM. 'bulk': how many values and letters a reading holds, each counted each time it is reached (what is shared counts as often as it is met; a slice's spare places count too). A statement '..UptoSaid' is the law's where the arguments, and the package variables that the reading takes, are together of bulk at most 1048576: NARROWER than '..Said'. Prove '..Said' where nothing that the law and all that it calls make is longer than what came in: it says more and counts as full. Else prove '..UptoSaid'. A law counts once. -/
mutual
def uptoBulk {H : Type} : DataW H → Nat
  | .lit (.string bytes) => bytes.length + 1
  | .lit _ => 1
  | .nil => 1
  | .ptr d => uptoBulk d + 1
  | .slice elems spare => uptoBulkAll elems + uptoBulkAll spare + 1
  | .agg parts => uptoBulkAll parts + 1
  | .iface _ d => uptoBulk d + 1
  | .map entries => uptoBulkEntries entries + 1
  | .held _ => 1
def uptoBulkAll {H : Type} : List (DataW H) → Nat
  | [] => 0
  | d :: r => uptoBulk d + uptoBulkAll r
def uptoBulkEntries {H : Type} : List (Lit × DataW H) → Nat
  | [] => 0
  | x :: r => uptoBulkEntry x + uptoBulkEntries r
def uptoBulkEntry {H : Type} : Lit × DataW H → Nat
  | (.string bytes, d) => bytes.length + uptoBulk d + 1
  | (_, d) => uptoBulk d + 1
 end
def uptoSmall : (H : Type) → List (DataW H) → Bool := fun _ ds => decide (uptoBulkAll ds ≤ 1048576)
def OpenSpec.upto (s : _root_.Go.ChangeSpec) : _root_.Go.OpenSpec := { _root_.Go.OpenSpec.ofChange s with cond := some uptoSmall }

/-- 'laws.FnFoldFlow', WHERE WHAT IT READS IS OF BULK AT MOST 1048576: true; the input reads as it did. -/
def fnFoldFlowUptoRow : OpenClaim := { program := "ythikdkjjdeehoaagreat", sum := "8c5232c99f5d140a0d47e90dad6973e89d3f0ba3c7d9a7614483617da7b99e6c", func := "loop.example/constanttime/laws.FnFoldFlow", spec := "fnFoldFlow", unfollowed := true, recurses := true, apart := false, narrowed := true }
def FnFoldFlowUptoSaid : Prop := fnFoldFlowUptoRow.holds Tryz.pinned (OpenSpec.upto fnFoldFlowSpec)

/-- 'laws.FnVerifyCompile', WHERE WHAT IT READS IS OF BULK AT MOST 1048576: true; the input reads as it did. -/
def fnVerifyCompileUptoRow : OpenClaim := { program := "ythikdkjjdeehoaagreat", sum := "8c5232c99f5d140a0d47e90dad6973e89d3f0ba3c7d9a7614483617da7b99e6c", func := "loop.example/constanttime/laws.FnVerifyCompile", spec := "fnVerifyCompile", unfollowed := true, recurses := true, apart := false, narrowed := true }
def FnVerifyCompileUptoSaid : Prop := fnVerifyCompileUptoRow.holds Tryz.pinned (OpenSpec.upto fnVerifyCompileSpec)

/-- 'laws.FnExactLinearize', WHERE WHAT IT READS IS OF BULK AT MOST 1048576: true; the input reads as it did. -/
def fnExactLinearizeUptoRow : OpenClaim := { program := "ythikdkjjdeehoaagreat", sum := "8c5232c99f5d140a0d47e90dad6973e89d3f0ba3c7d9a7614483617da7b99e6c", func := "loop.example/constanttime/laws.FnExactLinearize", spec := "fnExactLinearize", unfollowed := true, recurses := true, loops := true, apart := false, narrowed := true }
def FnExactLinearizeUptoSaid : Prop := fnExactLinearizeUptoRow.holds Tryz.pinned (OpenSpec.upto fnExactLinearizeSpec)

/-- 'laws.FnExactCompileSecure', WHERE WHAT IT READS IS OF BULK AT MOST 1048576: true; the input reads as it did. -/
def fnExactCompileSecureUptoRow : OpenClaim := { program := "ythikdkjjdeehoaagreat", sum := "8c5232c99f5d140a0d47e90dad6973e89d3f0ba3c7d9a7614483617da7b99e6c", func := "loop.example/constanttime/laws.FnExactCompileSecure", spec := "fnExactCompileSecure", unfollowed := true, recurses := true, loops := true, apart := false, narrowed := true }
def FnExactCompileSecureUptoSaid : Prop := fnExactCompileSecureUptoRow.holds Tryz.pinned (OpenSpec.upto fnExactCompileSecureSpec)

/-- 'laws.FnLinearize', WHERE WHAT IT READS IS OF BULK AT MOST 1048576: true; the input reads as it did. -/
def fnLinearizeUptoRow : OpenClaim := { program := "ythikdkjjdeehoaagreat", sum := "8c5232c99f5d140a0d47e90dad6973e89d3f0ba3c7d9a7614483617da7b99e6c", func := "loop.example/constanttime/laws.FnLinearize", spec := "fnLinearize", unfollowed := true, recurses := true, apart := false, narrowed := true }
def FnLinearizeUptoSaid : Prop := fnLinearizeUptoRow.holds Tryz.pinned (OpenSpec.upto fnLinearizeSpec)

/-- 'laws.FnLinearizeFixed', WHERE WHAT IT READS IS OF BULK AT MOST 1048576: true; the input reads as it did. -/
def fnLinearizeFixedUptoRow : OpenClaim := { program := "ythikdkjjdeehoaagreat", sum := "8c5232c99f5d140a0d47e90dad6973e89d3f0ba3c7d9a7614483617da7b99e6c", func := "loop.example/constanttime/laws.FnLinearizeFixed", spec := "fnLinearizeFixed", unfollowed := true, recurses := true, apart := false, narrowed := true }
def FnLinearizeFixedUptoSaid : Prop := fnLinearizeFixedUptoRow.holds Tryz.pinned (OpenSpec.upto fnLinearizeFixedSpec)

/-- 'laws.FnVerifyRaise', WHERE WHAT IT READS IS OF BULK AT MOST 1048576: true; the input reads as it did. -/
def fnVerifyRaiseUptoRow : OpenClaim := { program := "ythikdkjjdeehoaagreat", sum := "8c5232c99f5d140a0d47e90dad6973e89d3f0ba3c7d9a7614483617da7b99e6c", func := "loop.example/constanttime/laws.FnVerifyRaise", spec := "fnVerifyRaise", unfollowed := true, recurses := true, apart := false, narrowed := true }
def FnVerifyRaiseUptoSaid : Prop := fnVerifyRaiseUptoRow.holds Tryz.pinned (OpenSpec.upto fnVerifyRaiseSpec)

/-- 'laws.FnVerifyDistrust', WHERE WHAT IT READS IS OF BULK AT MOST 1048576: true; the input reads as it did. -/
def fnVerifyDistrustUptoRow : OpenClaim := { program := "ythikdkjjdeehoaagreat", sum := "8c5232c99f5d140a0d47e90dad6973e89d3f0ba3c7d9a7614483617da7b99e6c", func := "loop.example/constanttime/laws.FnVerifyDistrust", spec := "fnVerifyDistrust", unfollowed := true, recurses := true, apart := false, narrowed := true }
def FnVerifyDistrustUptoSaid : Prop := fnVerifyDistrustUptoRow.holds Tryz.pinned (OpenSpec.upto fnVerifyDistrustSpec)

/-- 'laws.FnTaintReach', WHERE WHAT IT READS IS OF BULK AT MOST 1048576: true; the input reads as it did. -/
def fnTaintReachUptoRow : OpenClaim := { program := "ythikdkjjdeehoaagreat", sum := "8c5232c99f5d140a0d47e90dad6973e89d3f0ba3c7d9a7614483617da7b99e6c", func := "loop.example/constanttime/laws.FnTaintReach", spec := "fnTaintReach", unfollowed := true, recurses := true, apart := false, narrowed := true }
def FnTaintReachUptoSaid : Prop := fnTaintReachUptoRow.holds Tryz.pinned (OpenSpec.upto fnTaintReachSpec)

/-- 'laws.FnInferTaint', WHERE WHAT IT READS IS OF BULK AT MOST 1048576: true; the input reads as it did. -/
def fnInferTaintUptoRow : OpenClaim := { program := "ythikdkjjdeehoaagreat", sum := "8c5232c99f5d140a0d47e90dad6973e89d3f0ba3c7d9a7614483617da7b99e6c", func := "loop.example/constanttime/laws.FnInferTaint", spec := "fnInferTaint", unfollowed := true, recurses := true, apart := false, narrowed := true }
def FnInferTaintUptoSaid : Prop := fnInferTaintUptoRow.holds Tryz.pinned (OpenSpec.upto fnInferTaintSpec)

/-- 'laws.FnVerifyOptimize', WHERE WHAT IT READS IS OF BULK AT MOST 1048576: true; the input reads as it did. -/
def fnVerifyOptimizeUptoRow : OpenClaim := { program := "ythikdkjjdeehoaagreat", sum := "8c5232c99f5d140a0d47e90dad6973e89d3f0ba3c7d9a7614483617da7b99e6c", func := "loop.example/constanttime/laws.FnVerifyOptimize", spec := "fnVerifyOptimize", unfollowed := true, recurses := true, apart := false, narrowed := true }
def FnVerifyOptimizeUptoSaid : Prop := fnVerifyOptimizeUptoRow.holds Tryz.pinned (OpenSpec.upto fnVerifyOptimizeSpec)

/-- 'laws.FnCheckTaint', WHERE WHAT IT READS IS OF BULK AT MOST 1048576: true; the input reads as it did. -/
def fnCheckTaintUptoRow : OpenClaim := { program := "ythikdkjjdeehoaagreat", sum := "8c5232c99f5d140a0d47e90dad6973e89d3f0ba3c7d9a7614483617da7b99e6c", func := "loop.example/constanttime/laws.FnCheckTaint", spec := "fnCheckTaint", unfollowed := true, recurses := true, apart := false, narrowed := true }
def FnCheckTaintUptoSaid : Prop := fnCheckTaintUptoRow.holds Tryz.pinned (OpenSpec.upto fnCheckTaintSpec)

end Rows
end Go.Proofs.YthikdkjjdeehoaaGreat
