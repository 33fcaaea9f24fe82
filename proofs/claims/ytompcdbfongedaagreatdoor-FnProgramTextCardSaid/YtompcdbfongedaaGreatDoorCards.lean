/-
  DERIVED. GIVEN WITH THE SEED: THE CARDS: each row of YtompcdbfongedaaGreatDoorRows.lean that lists a variable, with what it lists TIED to the program's text (the seventh form; the later family's looks); each row that meets fmt, with fmt's text TOLD by the authors' own Lean function (tested against real Go, not proved from fmt's source: count such statements apart). THE CARD IS WHAT COUNTS. Prove the row's statement (the work); the ties are given (YtompcdbfongedaaGreatDoorTie.lean); close each card by the builder's one call (the guide's Derived/Test/ToyasCard.lean, 'card_holds'). Laid BY PROGRAM, IN A SANDBOX (cutbox-door.mjs). By AI agents, Wed Nov 11 2026. No macro, syntax, notation, axiom, sorry.
-/
import Derived.Test.YtompcdbfongedaaGreatDoorRows
import GoSem.ClaimSeven
namespace Go.Proofs.YtompcdbfongedaaGreatDoor
namespace Rows

/-- THE TIED CARD OF 'laws.FnExactParseProgram'. -/
def fnExactParseProgramCard : Claim7 := { stood := { row := fnExactParseProgramRow, standIns := [], harness := (true, "918cd2ae6651640d65df1d587bc5ec1063cc14ef41ecabdc24b0f22ebd98dee6"), looks := true }, kinds := [], alts := [], laidByText := true, laidKinds := [.data, .data, .data, .data, .sentinel, .sentinel, .pinned], laidTests := true, laidLooks := .later }
def FnExactParseProgramCardSaid : Prop := Claim7.holds Tryz.pinned (.plain (OpenSpec.ofChange fnExactParseProgramSpec)) fnExactParseProgramCard

/-- THE TIED CARD OF 'laws.FnProgramText'. -/
def fnProgramTextCard : Claim7 := { stood := { row := fnProgramTextRow, standIns := [], harness := (true, "918cd2ae6651640d65df1d587bc5ec1063cc14ef41ecabdc24b0f22ebd98dee6"), looks := true }, kinds := [], alts := [], laidByText := true, laidKinds := [.data, .data, .data, .data, .sentinel, .sentinel, .pinned], laidTests := true, laidLooks := .later }
def FnProgramTextCardSaid : Prop := Claim7.holds Tryz.pinned (.plain (OpenSpec.ofChange fnProgramTextSpec)) fnProgramTextCard

/-- THE SECOND FORM's CARD OF 'laws.FnExactParseProgram'. -/
def fnExactParseProgramUptoCard : Claim7 := { stood := { row := fnExactParseProgramUptoRow, standIns := [], harness := (true, "918cd2ae6651640d65df1d587bc5ec1063cc14ef41ecabdc24b0f22ebd98dee6"), looks := true }, kinds := [], alts := [], laidByText := true, laidKinds := [.data, .data, .data, .data, .sentinel, .sentinel, .pinned], laidTests := true, laidLooks := .later }
def FnExactParseProgramUptoCardSaid : Prop := Claim7.holds Tryz.pinned (.plain (OpenSpec.upto fnExactParseProgramSpec)) fnExactParseProgramUptoCard

/-- THE SECOND FORM's CARD OF 'laws.FnProgramText'. -/
def fnProgramTextUptoCard : Claim7 := { stood := { row := fnProgramTextUptoRow, standIns := [], harness := (true, "918cd2ae6651640d65df1d587bc5ec1063cc14ef41ecabdc24b0f22ebd98dee6"), looks := true }, kinds := [], alts := [], laidByText := true, laidKinds := [.data, .data, .data, .data, .sentinel, .sentinel, .pinned], laidTests := true, laidLooks := .later }
def FnProgramTextUptoCardSaid : Prop := Claim7.holds Tryz.pinned (.plain (OpenSpec.upto fnProgramTextSpec)) fnProgramTextUptoCard
end Rows
end Go.Proofs.YtompcdbfongedaaGreatDoor
