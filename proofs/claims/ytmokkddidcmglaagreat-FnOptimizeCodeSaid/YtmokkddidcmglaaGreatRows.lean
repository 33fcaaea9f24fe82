/-
  No cell of these rows narrows 'for every input' (looked for: loops, veiled, ifaces, maps, wideKeys, modest, calm, conditions, laid).
  DERIVED. THE GIVEN ROWS OF THIS SEAT. 4 by the template 'for every input the law returns true; each argument reads behind the call as it read before'; 0 by the template 'total and deterministic' (their statements: YtmokkddidcmglaaGreatTotals.lean).
  GIVEN WITH THE SEED: the statements are not yours to turn. If you find one false, say at which input.
  Laid BY PROGRAM, IN A SANDBOX (cutbox-rows.mjs): the forced cells as the released guide's own fill.sh prints them over the translation f6c2005634b525bd… (all of the seat's roots in one cut). By AI agents, Wed Nov 11 2026. No macro, syntax, notation, axiom, sorry.
-/
import Derived.Test.YtmokkddidcmglaaGreatChecked
import GoSem.Claim
import GoSem.ClaimJoined
import GoSem.ClaimMapViews
import Derived.JoinedTies
import Derived.KernelRfl
namespace Go.Proofs.YtmokkddidcmglaaGreat
/- THE CELL 'sum', in the pinned program and in every row, IS THE sha256 OF THE DUMP (.gsa) THAT YtmokkddidcmglaaGreatProg.lean LOADS. Nothing in Lean hashes anything: it is a label: what it is worth is what the hold of that sum in a sandbox is worth. -/
noncomputable def Tryz.pinned : Pinned := { name := "ytmokkddidcmglaagreat", sum := "f6c2005634b525bd1abe74332ee4a7d15027c3d02b5094cbff1bfd7988e92bed", checked := Tryz.checked }
namespace Rows
def none {H : Type} : Left H := { results := [], args := [] }

/-- 'laws.FnThreadJumps': WHATEVER THE INPUT: true; the input reads as it did. -/
def fnThreadJumpsSpec : ChangeSpec := { name := "fnThreadJumps", fn := fun _ => fun
  | [d] => { results := [.lit (.bool true)], args := [d] }
  | _ => none }
def fnThreadJumpsRow : OpenClaim := { program := "ytmokkddidcmglaagreat", sum := "f6c2005634b525bd1abe74332ee4a7d15027c3d02b5094cbff1bfd7988e92bed", func := "loop.example/constanttime/laws.FnThreadJumps", spec := "fnThreadJumps", unfollowed := true, recurses := true, apart := false }
def FnThreadJumpsSaid : Prop := fnThreadJumpsRow.holds Tryz.pinned (OpenSpec.ofChange fnThreadJumpsSpec)

/-- ITS FALSE NEIGHBOUR: 'it returns false'. Refute it at one input. -/
def fnThreadJumpsWrong : ChangeSpec := { name := "fnThreadJumps", fn := fun _ => fun
  | [d] => { results := [.lit (.bool false)], args := [d] }
  | _ => none }
def FnThreadJumpsWrongFalsely : Prop := fnThreadJumpsRow.holds Tryz.pinned (OpenSpec.ofChange fnThreadJumpsWrong)

/-- 'laws.FnTrimCode': WHATEVER THE INPUT: true; the input reads as it did. -/
def fnTrimCodeSpec : ChangeSpec := { name := "fnTrimCode", fn := fun _ => fun
  | [d] => { results := [.lit (.bool true)], args := [d] }
  | _ => none }
def fnTrimCodeRow : OpenClaim := { program := "ytmokkddidcmglaagreat", sum := "f6c2005634b525bd1abe74332ee4a7d15027c3d02b5094cbff1bfd7988e92bed", func := "loop.example/constanttime/laws.FnTrimCode", spec := "fnTrimCode", unfollowed := true, recurses := true, apart := false }
def FnTrimCodeSaid : Prop := fnTrimCodeRow.holds Tryz.pinned (OpenSpec.ofChange fnTrimCodeSpec)

/-- ITS FALSE NEIGHBOUR: 'it returns false'. Refute it at one input. -/
def fnTrimCodeWrong : ChangeSpec := { name := "fnTrimCode", fn := fun _ => fun
  | [d] => { results := [.lit (.bool false)], args := [d] }
  | _ => none }
def FnTrimCodeWrongFalsely : Prop := fnTrimCodeRow.holds Tryz.pinned (OpenSpec.ofChange fnTrimCodeWrong)

/-- 'laws.FnOptimizeCode': WHATEVER THE INPUT: true; the input reads as it did. -/
def fnOptimizeCodeSpec : ChangeSpec := { name := "fnOptimizeCode", fn := fun _ => fun
  | [d] => { results := [.lit (.bool true)], args := [d] }
  | _ => none }
def fnOptimizeCodeRow : OpenClaim := { program := "ytmokkddidcmglaagreat", sum := "f6c2005634b525bd1abe74332ee4a7d15027c3d02b5094cbff1bfd7988e92bed", func := "loop.example/constanttime/laws.FnOptimizeCode", spec := "fnOptimizeCode", unfollowed := true, recurses := true, apart := false }
def FnOptimizeCodeSaid : Prop := fnOptimizeCodeRow.holds Tryz.pinned (OpenSpec.ofChange fnOptimizeCodeSpec)

/-- ITS FALSE NEIGHBOUR: 'it returns false'. Refute it at one input. -/
def fnOptimizeCodeWrong : ChangeSpec := { name := "fnOptimizeCode", fn := fun _ => fun
  | [d] => { results := [.lit (.bool false)], args := [d] }
  | _ => none }
def FnOptimizeCodeWrongFalsely : Prop := fnOptimizeCodeRow.holds Tryz.pinned (OpenSpec.ofChange fnOptimizeCodeWrong)

/-- 'laws.FnOptimizeLeak': WHATEVER THE INPUT: true; the input reads as it did. -/
def fnOptimizeLeakSpec : ChangeSpec := { name := "fnOptimizeLeak", fn := fun _ => fun
  | [d] => { results := [.lit (.bool true)], args := [d] }
  | _ => none }
def fnOptimizeLeakRow : OpenClaim := { program := "ytmokkddidcmglaagreat", sum := "f6c2005634b525bd1abe74332ee4a7d15027c3d02b5094cbff1bfd7988e92bed", func := "loop.example/constanttime/laws.FnOptimizeLeak", spec := "fnOptimizeLeak", unfollowed := true, recurses := true, apart := false }
def FnOptimizeLeakSaid : Prop := fnOptimizeLeakRow.holds Tryz.pinned (OpenSpec.ofChange fnOptimizeLeakSpec)

/-- ITS FALSE NEIGHBOUR: 'it returns false'. Refute it at one input. -/
def fnOptimizeLeakWrong : ChangeSpec := { name := "fnOptimizeLeak", fn := fun _ => fun
  | [d] => { results := [.lit (.bool false)], args := [d] }
  | _ => none }
def FnOptimizeLeakWrongFalsely : Prop := fnOptimizeLeakRow.holds Tryz.pinned (OpenSpec.ofChange fnOptimizeLeakWrong)

/- THE SECOND FORM. 'bulk': how many values and letters a reading holds, each counted each time it is reached (what is shared counts as often as it is met; a slice's spare places count too). A statement '..UptoSaid' is the law's where the arguments, and the package variables that the reading takes, are together of bulk at most 1048576: NARROWER than '..Said'. Prove '..Said' where nothing that the law and all that it calls make is longer than what came in: it says more and counts as full. Else prove '..UptoSaid'. A law counts once. -/
mutual
def uptoBulk {H : Type} : DataW H → Nat
  | .lit (.string bytes) => bytes.length + 1
  | .lit _ => 1
  | .nil => 1
  | .ptr d => uptoBulk d + 1
  | .slice elems spare => uptoBulkAll elems + uptoBulkAll spare + 1
  | .agg parts => uptoBulkAll parts + 1
  | .iface _ d => uptoBulk d + 1
  | .map entries => uptoBulkEntries entries + 1
  | .held _ => 1
def uptoBulkAll {H : Type} : List (DataW H) → Nat
  | [] => 0
  | d :: r => uptoBulk d + uptoBulkAll r
def uptoBulkEntries {H : Type} : List (Lit × DataW H) → Nat
  | [] => 0
  | x :: r => uptoBulkEntry x + uptoBulkEntries r
def uptoBulkEntry {H : Type} : Lit × DataW H → Nat
  | (.string bytes, d) => bytes.length + uptoBulk d + 1
  | (_, d) => uptoBulk d + 1
 end
def uptoSmall : (H : Type) → List (DataW H) → Bool := fun _ ds => decide (uptoBulkAll ds ≤ 1048576)
def OpenSpec.upto (s : _root_.Go.ChangeSpec) : _root_.Go.OpenSpec := { _root_.Go.OpenSpec.ofChange s with cond := some uptoSmall }

/-- 'laws.FnThreadJumps', WHERE WHAT IT READS IS OF BULK AT MOST 1048576: true; the input reads as it did. -/
def fnThreadJumpsUptoRow : OpenClaim := { program := "ytmokkddidcmglaagreat", sum := "f6c2005634b525bd1abe74332ee4a7d15027c3d02b5094cbff1bfd7988e92bed", func := "loop.example/constanttime/laws.FnThreadJumps", spec := "fnThreadJumps", unfollowed := true, recurses := true, apart := false, narrowed := true }
def FnThreadJumpsUptoSaid : Prop := fnThreadJumpsUptoRow.holds Tryz.pinned (OpenSpec.upto fnThreadJumpsSpec)

/-- 'laws.FnTrimCode', WHERE WHAT IT READS IS OF BULK AT MOST 1048576: true; the input reads as it did. -/
def fnTrimCodeUptoRow : OpenClaim := { program := "ytmokkddidcmglaagreat", sum := "f6c2005634b525bd1abe74332ee4a7d15027c3d02b5094cbff1bfd7988e92bed", func := "loop.example/constanttime/laws.FnTrimCode", spec := "fnTrimCode", unfollowed := true, recurses := true, apart := false, narrowed := true }
def FnTrimCodeUptoSaid : Prop := fnTrimCodeUptoRow.holds Tryz.pinned (OpenSpec.upto fnTrimCodeSpec)

/-- 'laws.FnOptimizeCode', WHERE WHAT IT READS IS OF BULK AT MOST 1048576: true; the input reads as it did. -/
def fnOptimizeCodeUptoRow : OpenClaim := { program := "ytmokkddidcmglaagreat", sum := "f6c2005634b525bd1abe74332ee4a7d15027c3d02b5094cbff1bfd7988e92bed", func := "loop.example/constanttime/laws.FnOptimizeCode", spec := "fnOptimizeCode", unfollowed := true, recurses := true, apart := false, narrowed := true }
def FnOptimizeCodeUptoSaid : Prop := fnOptimizeCodeUptoRow.holds Tryz.pinned (OpenSpec.upto fnOptimizeCodeSpec)

/-- 'laws.FnOptimizeLeak', WHERE WHAT IT READS IS OF BULK AT MOST 1048576: true; the input reads as it did. -/
def fnOptimizeLeakUptoRow : OpenClaim := { program := "ytmokkddidcmglaagreat", sum := "f6c2005634b525bd1abe74332ee4a7d15027c3d02b5094cbff1bfd7988e92bed", func := "loop.example/constanttime/laws.FnOptimizeLeak", spec := "fnOptimizeLeak", unfollowed := true, recurses := true, apart := false, narrowed := true }
def FnOptimizeLeakUptoSaid : Prop := fnOptimizeLeakUptoRow.holds Tryz.pinned (OpenSpec.upto fnOptimizeLeakSpec)

end Rows
end Go.Proofs.YtmokkddidcmglaaGreat
