/-
  No cell of these rows narrows 'for every input' (looked for: loops, veiled, ifaces, maps, wideKeys, modest, calm, conditions, laid).
  DERIVED. THE GIVEN ROWS OF THIS SEAT. 3 by the template 'for every input the law returns true; each argument reads behind the call as it read before'; 0 by the template 'total and deterministic' (their statements: YtmokkddidcmglaaTotals.lean).
  GIVEN WITH THE SEED: the statements are not yours to turn. If you find one false, say at which input.
  Laid BY PROGRAM, IN A SANDBOX (cutbox-rows.mjs): the forced cells as the released guide's own fill.sh prints them over the translation d6527cbec7d9c05a… (all of the seat's roots in one cut). By AI agents, Wed Nov 11 2026. No macro, syntax, notation, axiom, sorry.
-/
import Derived.Test.YtmokkddidcmglaaChecked
import GoSem.Claim
import GoSem.ClaimJoined
import GoSem.ClaimMapViews
import Derived.JoinedTies
import Derived.KernelRfl
namespace Go.Proofs.Ytmokkddidcmglaa
/- THE CELL 'sum', in the pinned program and in every row, IS THE sha256 OF THE DUMP (.gsa) THAT YtmokkddidcmglaaProg.lean LOADS. Nothing in Lean hashes anything: it is a label: what it is worth is what the hold of that sum in a sandbox is worth. -/
noncomputable def Try.pinned : Pinned := { name := "ytmokkddidcmglaa", sum := "d6527cbec7d9c05a74401bf5cc4fd80dffc07d96638330721eb35c1d2cd23751", checked := Try.checked }
namespace Rows
def none {H : Type} : Left H := { results := [], args := [] }

/-- 'laws.FnFoldExpr': WHATEVER THE INPUT: true; the input reads as it did. -/
def fnFoldExprSpec : ChangeSpec := { name := "fnFoldExpr", fn := fun _ => fun
  | [d] => { results := [.lit (.bool true)], args := [d] }
  | _ => none }
def fnFoldExprRow : OpenClaim := { program := "ytmokkddidcmglaa", sum := "d6527cbec7d9c05a74401bf5cc4fd80dffc07d96638330721eb35c1d2cd23751", func := "loop.example/constanttime/laws.FnFoldExpr", spec := "fnFoldExpr", unfollowed := true, recurses := true, apart := false }
def FnFoldExprSaid : Prop := fnFoldExprRow.holds Try.pinned (OpenSpec.ofChange fnFoldExprSpec)

/-- ITS FALSE NEIGHBOUR: 'it returns false'. Refute it at one input. -/
def fnFoldExprWrong : ChangeSpec := { name := "fnFoldExpr", fn := fun _ => fun
  | [d] => { results := [.lit (.bool false)], args := [d] }
  | _ => none }
def FnFoldExprWrongFalsely : Prop := fnFoldExprRow.holds Try.pinned (OpenSpec.ofChange fnFoldExprWrong)

/-- 'laws.FnReachableCode': WHATEVER THE INPUT: true; the input reads as it did. -/
def fnReachableCodeSpec : ChangeSpec := { name := "fnReachableCode", fn := fun _ => fun
  | [d] => { results := [.lit (.bool true)], args := [d] }
  | _ => none }
def fnReachableCodeRow : OpenClaim := { program := "ytmokkddidcmglaa", sum := "d6527cbec7d9c05a74401bf5cc4fd80dffc07d96638330721eb35c1d2cd23751", func := "loop.example/constanttime/laws.FnReachableCode", spec := "fnReachableCode", unfollowed := true, recurses := true, apart := false }
def FnReachableCodeSaid : Prop := fnReachableCodeRow.holds Try.pinned (OpenSpec.ofChange fnReachableCodeSpec)

/-- ITS FALSE NEIGHBOUR: 'it returns false'. Refute it at one input. -/
def fnReachableCodeWrong : ChangeSpec := { name := "fnReachableCode", fn := fun _ => fun
  | [d] => { results := [.lit (.bool false)], args := [d] }
  | _ => none }
def FnReachableCodeWrongFalsely : Prop := fnReachableCodeRow.holds Try.pinned (OpenSpec.ofChange fnReachableCodeWrong)

/-- 'laws.FnReachableRun': WHATEVER THE INPUT: true; the input reads as it did. -/
def fnReachableRunSpec : ChangeSpec := { name := "fnReachableRun", fn := fun _ => fun
  | [d] => { results := [.lit (.bool true)], args := [d] }
  | _ => none }
def fnReachableRunRow : OpenClaim := { program := "ytmokkddidcmglaa", sum := "d6527cbec7d9c05a74401bf5cc4fd80dffc07d96638330721eb35c1d2cd23751", func := "loop.example/constanttime/laws.FnReachableRun", spec := "fnReachableRun", unfollowed := true, recurses := true, apart := false }
def FnReachableRunSaid : Prop := fnReachableRunRow.holds Try.pinned (OpenSpec.ofChange fnReachableRunSpec)

/-- ITS FALSE NEIGHBOUR: 'it returns false'. Refute it at one input. -/
def fnReachableRunWrong : ChangeSpec := { name := "fnReachableRun", fn := fun _ => fun
  | [d] => { results := [.lit (.bool false)], args := [d] }
  | _ => none }
def FnReachableRunWrongFalsely : Prop := fnReachableRunRow.holds Try.pinned (OpenSpec.ofChange fnReachableRunWrong)

/- THE SECOND FORM. 'bulk': how many values and letters a reading holds, each counted each time it is reached (what is shared counts as often as it is met; a slice's spare places count too). A statement '..UptoSaid' is the law's where the arguments, and the package variables that the reading takes, are together of bulk at most 1048576: NARROWER than '..Said'. Prove '..Said' where nothing that the law and all that it calls make is longer than what came in: it says more and counts as full. Else prove '..UptoSaid'. A law counts once. -/
mutual
def uptoBulk {H : Type} : DataW H → Nat
  | .lit (.string bytes) => bytes.length + 1
  | .lit _ => 1
  | .nil => 1
  | .ptr d => uptoBulk d + 1
  | .slice elems spare => uptoBulkAll elems + uptoBulkAll spare + 1
  | .agg parts => uptoBulkAll parts + 1
  | .iface _ d => uptoBulk d + 1
  | .map entries => uptoBulkEntries entries + 1
  | .held _ => 1
def uptoBulkAll {H : Type} : List (DataW H) → Nat
  | [] => 0
  | d :: r => uptoBulk d + uptoBulkAll r
def uptoBulkEntries {H : Type} : List (Lit × DataW H) → Nat
  | [] => 0
  | x :: r => uptoBulkEntry x + uptoBulkEntries r
def uptoBulkEntry {H : Type} : Lit × DataW H → Nat
  | (.string bytes, d) => bytes.length + uptoBulk d + 1
  | (_, d) => uptoBulk d + 1
 end
def uptoSmall : (H : Type) → List (DataW H) → Bool := fun _ ds => decide (uptoBulkAll ds ≤ 1048576)
def OpenSpec.upto (s : _root_.Go.ChangeSpec) : _root_.Go.OpenSpec := { _root_.Go.OpenSpec.ofChange s with cond := some uptoSmall }

/-- 'laws.FnFoldExpr', WHERE WHAT IT READS IS OF BULK AT MOST 1048576: true; the input reads as it did. -/
def fnFoldExprUptoRow : OpenClaim := { program := "ytmokkddidcmglaa", sum := "d6527cbec7d9c05a74401bf5cc4fd80dffc07d96638330721eb35c1d2cd23751", func := "loop.example/constanttime/laws.FnFoldExpr", spec := "fnFoldExpr", unfollowed := true, recurses := true, apart := false, narrowed := true }
def FnFoldExprUptoSaid : Prop := fnFoldExprUptoRow.holds Try.pinned (OpenSpec.upto fnFoldExprSpec)

/-- 'laws.FnReachableCode', WHERE WHAT IT READS IS OF BULK AT MOST 1048576: true; the input reads as it did. -/
def fnReachableCodeUptoRow : OpenClaim := { program := "ytmokkddidcmglaa", sum := "d6527cbec7d9c05a74401bf5cc4fd80dffc07d96638330721eb35c1d2cd23751", func := "loop.example/constanttime/laws.FnReachableCode", spec := "fnReachableCode", unfollowed := true, recurses := true, apart := false, narrowed := true }
def FnReachableCodeUptoSaid : Prop := fnReachableCodeUptoRow.holds Try.pinned (OpenSpec.upto fnReachableCodeSpec)

/-- 'laws.FnReachableRun', WHERE WHAT IT READS IS OF BULK AT MOST 1048576: true; the input reads as it did. -/
def fnReachableRunUptoRow : OpenClaim := { program := "ytmokkddidcmglaa", sum := "d6527cbec7d9c05a74401bf5cc4fd80dffc07d96638330721eb35c1d2cd23751", func := "loop.example/constanttime/laws.FnReachableRun", spec := "fnReachableRun", unfollowed := true, recurses := true, apart := false, narrowed := true }
def FnReachableRunUptoSaid : Prop := fnReachableRunUptoRow.holds Try.pinned (OpenSpec.upto fnReachableRunSpec)

end Rows
end Go.Proofs.Ytmokkddidcmglaa
