/-
  No cell of these rows narrows 'for every input' (looked for: loops, veiled, ifaces, maps, wideKeys, modest, calm, conditions, laid).
  DERIVED. THE GIVEN ROWS OF THIS SEAT. 4 by the template 'for every input the law returns true; each argument reads behind the call as it read before'; 0 by the template 'total and deterministic' (their statements: YtfbeblgnjeokaaaGreatTotals.lean).
  GIVEN WITH THE SEED: the statements are not yours to turn. If you find one false, say at which input.
  Laid BY PROGRAM, IN A SANDBOX (cutbox-rows.mjs): the forced cells as the released guide's own fill.sh prints them over the translation a7b67abfb4152813… (all of the seat's roots in one cut). By AI agents, Wed Nov 11 2026. No macro, syntax, notation, axiom, sorry.
-/
import Derived.Test.YtfbeblgnjeokaaaGreatChecked
import GoSem.Claim
import GoSem.ClaimJoined
import GoSem.ClaimMapViews
import Derived.JoinedTies
import Derived.KernelRfl
namespace Go.Proofs.YtfbeblgnjeokaaaGreat
/- THE CELL 'sum', in the pinned program and in every row, IS THE sha256 OF THE DUMP (.gsa) THAT YtfbeblgnjeokaaaGreatProg.lean LOADS. Nothing in Lean hashes anything: it is a label: what it is worth is what the hold of that sum in a sandbox is worth. -/
noncomputable def Tryz.pinned : Pinned := { name := "ytfbeblgnjeokaaagreat", sum := "a7b67abfb4152813ce77f7257a1b7376cfb58dbf600230ac4b18763ea3371f43", checked := Tryz.checked }
namespace Rows
def none {H : Type} : Left H := { results := [], args := [] }

/-- 'laws.FnVerifyRelease': WHATEVER THE INPUT: true; the input reads as it did. -/
def fnVerifyReleaseSpec : ChangeSpec := { name := "fnVerifyRelease", fn := fun _ => fun
  | [d] => { results := [.lit (.bool true)], args := [d] }
  | _ => none }
def fnVerifyReleaseRow : OpenClaim := { program := "ytfbeblgnjeokaaagreat", sum := "a7b67abfb4152813ce77f7257a1b7376cfb58dbf600230ac4b18763ea3371f43", func := "loop.example/constanttime/laws.FnVerifyRelease", spec := "fnVerifyRelease", unfollowed := true, recurses := true, apart := false }
def FnVerifyReleaseSaid : Prop := fnVerifyReleaseRow.holds Tryz.pinned (OpenSpec.ofChange fnVerifyReleaseSpec)

/-- ITS FALSE NEIGHBOUR: 'it returns false'. Refute it at one input. -/
def fnVerifyReleaseWrong : ChangeSpec := { name := "fnVerifyRelease", fn := fun _ => fun
  | [d] => { results := [.lit (.bool false)], args := [d] }
  | _ => none }
def FnVerifyReleaseWrongFalsely : Prop := fnVerifyReleaseRow.holds Tryz.pinned (OpenSpec.ofChange fnVerifyReleaseWrong)

/-- 'laws.FnOptimizeSecure': WHATEVER THE INPUT: true; the input reads as it did. -/
def fnOptimizeSecureSpec : ChangeSpec := { name := "fnOptimizeSecure", fn := fun _ => fun
  | [d] => { results := [.lit (.bool true)], args := [d] }
  | _ => none }
def fnOptimizeSecureRow : OpenClaim := { program := "ytfbeblgnjeokaaagreat", sum := "a7b67abfb4152813ce77f7257a1b7376cfb58dbf600230ac4b18763ea3371f43", func := "loop.example/constanttime/laws.FnOptimizeSecure", spec := "fnOptimizeSecure", unfollowed := true, recurses := true, apart := false }
def FnOptimizeSecureSaid : Prop := fnOptimizeSecureRow.holds Tryz.pinned (OpenSpec.ofChange fnOptimizeSecureSpec)

/-- ITS FALSE NEIGHBOUR: 'it returns false'. Refute it at one input. -/
def fnOptimizeSecureWrong : ChangeSpec := { name := "fnOptimizeSecure", fn := fun _ => fun
  | [d] => { results := [.lit (.bool false)], args := [d] }
  | _ => none }
def FnOptimizeSecureWrongFalsely : Prop := fnOptimizeSecureRow.holds Tryz.pinned (OpenSpec.ofChange fnOptimizeSecureWrong)

/-- 'laws.FnVerifyOptimize': WHATEVER THE INPUT: true; the input reads as it did. -/
def fnVerifyOptimizeSpec : ChangeSpec := { name := "fnVerifyOptimize", fn := fun _ => fun
  | [d] => { results := [.lit (.bool true)], args := [d] }
  | _ => none }
def fnVerifyOptimizeRow : OpenClaim := { program := "ytfbeblgnjeokaaagreat", sum := "a7b67abfb4152813ce77f7257a1b7376cfb58dbf600230ac4b18763ea3371f43", func := "loop.example/constanttime/laws.FnVerifyOptimize", spec := "fnVerifyOptimize", unfollowed := true, recurses := true, apart := false }
def FnVerifyOptimizeSaid : Prop := fnVerifyOptimizeRow.holds Tryz.pinned (OpenSpec.ofChange fnVerifyOptimizeSpec)

/-- ITS FALSE NEIGHBOUR: 'it returns false'. Refute it at one input. -/
def fnVerifyOptimizeWrong : ChangeSpec := { name := "fnVerifyOptimize", fn := fun _ => fun
  | [d] => { results := [.lit (.bool false)], args := [d] }
  | _ => none }
def FnVerifyOptimizeWrongFalsely : Prop := fnVerifyOptimizeRow.holds Tryz.pinned (OpenSpec.ofChange fnVerifyOptimizeWrong)

/-- 'laws.FnCheckTaint': WHATEVER THE INPUT: true; the input reads as it did. -/
def fnCheckTaintSpec : ChangeSpec := { name := "fnCheckTaint", fn := fun _ => fun
  | [d] => { results := [.lit (.bool true)], args := [d] }
  | _ => none }
def fnCheckTaintRow : OpenClaim := { program := "ytfbeblgnjeokaaagreat", sum := "a7b67abfb4152813ce77f7257a1b7376cfb58dbf600230ac4b18763ea3371f43", func := "loop.example/constanttime/laws.FnCheckTaint", spec := "fnCheckTaint", unfollowed := true, recurses := true, apart := false }
def FnCheckTaintSaid : Prop := fnCheckTaintRow.holds Tryz.pinned (OpenSpec.ofChange fnCheckTaintSpec)

/-- ITS FALSE NEIGHBOUR: 'it returns false'. Refute it at one input. -/
def fnCheckTaintWrong : ChangeSpec := { name := "fnCheckTaint", fn := fun _ => fun
  | [d] => { results := [.lit (.bool false)], args := [d] }
  | _ => none }
def FnCheckTaintWrongFalsely : Prop := fnCheckTaintRow.holds Tryz.pinned (OpenSpec.ofChange fnCheckTaintWrong)

/- THE SECOND FORM. 'bulk': how many values and letters a reading holds, each counted each time it is reached (what is shared counts as often as it is met; a slice's spare places count too). A statement '..UptoSaid' is the law's where the arguments, and the package variables that the reading takes, are together of bulk at most 1048576: NARROWER than '..Said'. Prove '..Said' where nothing that the law and all that it calls make is longer than what came in: it says more and counts as full. Else prove '..UptoSaid'. A law counts once. -/
mutual
def uptoBulk {H : Type} : DataW H → Nat
  | .lit (.string bytes) => bytes.length + 1
  | .lit _ => 1
  | .nil => 1
  | .ptr d => uptoBulk d + 1
  | .slice elems spare => uptoBulkAll elems + uptoBulkAll spare + 1
  | .agg parts => uptoBulkAll parts + 1
  | .iface _ d => uptoBulk d + 1
  | .map entries => uptoBulkEntries entries + 1
  | .held _ => 1
def uptoBulkAll {H : Type} : List (DataW H) → Nat
  | [] => 0
  | d :: r => uptoBulk d + uptoBulkAll r
def uptoBulkEntries {H : Type} : List (Lit × DataW H) → Nat
  | [] => 0
  | x :: r => uptoBulkEntry x + uptoBulkEntries r
def uptoBulkEntry {H : Type} : Lit × DataW H → Nat
  | (.string bytes, d) => bytes.length + uptoBulk d + 1
  | (_, d) => uptoBulk d + 1
 end
def uptoSmall : (H : Type) → List (DataW H) → Bool := fun _ ds => decide (uptoBulkAll ds ≤ 1048576)
def OpenSpec.upto (s : _root_.Go.ChangeSpec) : _root_.Go.OpenSpec := { _root_.Go.OpenSpec.ofChange s with cond := some uptoSmall }

/-- 'laws.FnVerifyRelease', WHERE WHAT IT READS IS OF BULK AT MOST 1048576: true; the input reads as it did. -/
def fnVerifyReleaseUptoRow : OpenClaim := { program := "ytfbeblgnjeokaaagreat", sum := "a7b67abfb4152813ce77f7257a1b7376cfb58dbf600230ac4b18763ea3371f43", func := "loop.example/constanttime/laws.FnVerifyRelease", spec := "fnVerifyRelease", unfollowed := true, recurses := true, apart := false, narrowed := true }
def FnVerifyReleaseUptoSaid : Prop := fnVerifyReleaseUptoRow.holds Tryz.pinned (OpenSpec.upto fnVerifyReleaseSpec)

/-- 'laws.FnOptimizeSecure', WHERE WHAT IT READS IS OF BULK AT MOST 1048576: true; the input reads as it did. -/
def fnOptimizeSecureUptoRow : OpenClaim := { program := "ytfbeblgnjeokaaagreat", sum := "a7b67abfb4152813ce77f7257a1b7376cfb58dbf600230ac4b18763ea3371f43", func := "loop.example/constanttime/laws.FnOptimizeSecure", spec := "fnOptimizeSecure", unfollowed := true, recurses := true, apart := false, narrowed := true }
def FnOptimizeSecureUptoSaid : Prop := fnOptimizeSecureUptoRow.holds Tryz.pinned (OpenSpec.upto fnOptimizeSecureSpec)

/-- 'laws.FnVerifyOptimize', WHERE WHAT IT READS IS OF BULK AT MOST 1048576: true; the input reads as it did. -/
def fnVerifyOptimizeUptoRow : OpenClaim := { program := "ytfbeblgnjeokaaagreat", sum := "a7b67abfb4152813ce77f7257a1b7376cfb58dbf600230ac4b18763ea3371f43", func := "loop.example/constanttime/laws.FnVerifyOptimize", spec := "fnVerifyOptimize", unfollowed := true, recurses := true, apart := false, narrowed := true }
def FnVerifyOptimizeUptoSaid : Prop := fnVerifyOptimizeUptoRow.holds Tryz.pinned (OpenSpec.upto fnVerifyOptimizeSpec)

/-- 'laws.FnCheckTaint', WHERE WHAT IT READS IS OF BULK AT MOST 1048576: true; the input reads as it did. -/
def fnCheckTaintUptoRow : OpenClaim := { program := "ytfbeblgnjeokaaagreat", sum := "a7b67abfb4152813ce77f7257a1b7376cfb58dbf600230ac4b18763ea3371f43", func := "loop.example/constanttime/laws.FnCheckTaint", spec := "fnCheckTaint", unfollowed := true, recurses := true, apart := false, narrowed := true }
def FnCheckTaintUptoSaid : Prop := fnCheckTaintUptoRow.holds Tryz.pinned (OpenSpec.upto fnCheckTaintSpec)

end Rows
end Go.Proofs.YtfbeblgnjeokaaaGreat
