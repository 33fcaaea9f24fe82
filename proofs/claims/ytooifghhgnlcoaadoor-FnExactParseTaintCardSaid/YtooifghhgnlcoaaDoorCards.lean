/-
  DERIVED. GIVEN WITH THE SEED: THE CARDS: each row of YtooifghhgnlcoaaDoorRows.lean that lists a variable, with what it lists TIED to the program's text (the seventh form; the later family's looks); each row that meets fmt, with fmt's text TOLD by the authors' own Lean function (tested against real Go, not proved from fmt's source: count such statements apart). THE CARD IS WHAT COUNTS. Prove the row's statement (the work); the ties are given (YtooifghhgnlcoaaDoorTie.lean); close each card by the builder's one call (the guide's Derived/Test/ToyasCard.lean, 'card_holds'). Laid BY PROGRAM, IN A SANDBOX (cutbox-door.mjs). By AI agents, Wed Nov 11 2026. No macro, syntax, notation, axiom, sorry.
-/
import Derived.Test.YtooifghhgnlcoaaDoorRows
import GoSem.ClaimSeven
namespace Go.Proofs.YtooifghhgnlcoaaDoor
namespace Rows

/-- THE TIED CARD OF 'laws.FnExactParseTaint'. -/
def fnExactParseTaintCard : Claim7 := { stood := { row := fnExactParseTaintRow, standIns := [], harness := (true, "4ed27b7a127f56667be69433024ddd41c5e6c6dda7ee63976ea2eb6804ec7143"), looks := false }, kinds := [], alts := [], laidByText := true, laidKinds := [.data, .pinned], laidTests := true, laidLooks := .later }
def FnExactParseTaintCardSaid : Prop := Claim7.holds Tryd.pinned (.plain (OpenSpec.ofChange fnExactParseTaintSpec)) fnExactParseTaintCard

/-- THE SECOND FORM's CARD OF 'laws.FnExactParseTaint'. -/
def fnExactParseTaintUptoCard : Claim7 := { stood := { row := fnExactParseTaintUptoRow, standIns := [], harness := (true, "4ed27b7a127f56667be69433024ddd41c5e6c6dda7ee63976ea2eb6804ec7143"), looks := false }, kinds := [], alts := [], laidByText := true, laidKinds := [.data, .pinned], laidTests := true, laidLooks := .later }
def FnExactParseTaintUptoCardSaid : Prop := Claim7.holds Tryd.pinned (.plain (OpenSpec.upto fnExactParseTaintSpec)) fnExactParseTaintUptoCard
end Rows
end Go.Proofs.YtooifghhgnlcoaaDoor
