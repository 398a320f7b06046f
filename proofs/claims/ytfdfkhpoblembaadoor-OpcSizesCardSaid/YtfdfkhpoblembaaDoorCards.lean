/-
  DERIVED. GIVEN WITH THE SEED: THE CARDS: each row of YtfdfkhpoblembaaDoorRows.lean that lists a variable, with what it lists TIED to the program's text (the seventh form; the later family's looks); each row that meets fmt, with fmt's text TOLD by the authors' own Lean function (tested against real Go, not proved from fmt's source: count such statements apart). THE CARD IS WHAT COUNTS. Prove the row's statement (the work); the ties are given (YtfdfkhpoblembaaDoorTie.lean); close each card by the builder's one call (the guide's Derived/Test/ToyasCard.lean, 'card_holds'). Laid BY PROGRAM, IN A SANDBOX (cutbox-door.mjs). By AI agents, Wed Nov 11 2026. No macro, syntax, notation, axiom, sorry.
-/
import Derived.Test.YtfdfkhpoblembaaDoorRows
import GoSem.ClaimSeven
namespace Go.Proofs.YtfdfkhpoblembaaDoor
namespace Rows

/-- THE TIED CARD OF 'rubricatorlaw13.OpcSizes'. -/
def opcSizesCard : Claim7 := { stood := { row := opcSizesRow, standIns := [], harness := (true, "05036868cb495a681dea109640e47b642801481d3b22fbff0d4195053aca3a67"), looks := false }, kinds := [], alts := [], laidByText := true, laidKinds := [.data, .pinned], laidTests := true, laidLooks := .later }
def OpcSizesCardSaid : Prop := Claim7.holds Tryd.pinned (.plain (OpenSpec.ofChange opcSizesSpec)) opcSizesCard

/-- THE SECOND FORM's CARD OF 'rubricatorlaw13.OpcSizes'. -/
def opcSizesUptoCard : Claim7 := { stood := { row := opcSizesUptoRow, standIns := [], harness := (true, "05036868cb495a681dea109640e47b642801481d3b22fbff0d4195053aca3a67"), looks := false }, kinds := [], alts := [], laidByText := true, laidKinds := [.data, .pinned], laidTests := true, laidLooks := .later }
def OpcSizesUptoCardSaid : Prop := Claim7.holds Tryd.pinned (.plain (OpenSpec.upto opcSizesSpec)) opcSizesUptoCard
end Rows
end Go.Proofs.YtfdfkhpoblembaaDoor
