/-
  DERIVED. GIVEN WITH THE SEED: THE CARDS: each row of YtlimneghgioeaaaGreatDoorRows.lean that lists a variable, with what it lists TIED to the program's text (the seventh form; the later family's looks); each row that meets fmt, with fmt's text TOLD by the authors' own Lean function (tested against real Go, not proved from fmt's source: count such statements apart). THE CARD IS WHAT COUNTS. Prove the row's statement (the work); the ties are given (YtlimneghgioeaaaGreatDoorTie.lean); close each card by the builder's one call (the guide's Derived/Test/ToyasCard.lean, 'card_holds'). Laid BY PROGRAM, IN A SANDBOX (cutbox-door.mjs). By AI agents, Wed Nov 11 2026. No macro, syntax, notation, axiom, sorry.
-/
import Derived.Test.YtlimneghgioeaaaGreatDoorRows
import GoSem.ClaimSeven
namespace Go.Proofs.YtlimneghgioeaaaGreatDoor
namespace Rows

/-- THE TIED CARD OF 'rubricatorlaw16.WmlinStyles'. -/
def wmlinStylesCard : Claim7 := { stood := { row := wmlinStylesRow, standIns := [], harness := (true, "b7377b8a012be93cc04eeb34164efa42714b3d9c6375ada6dd6fd0f2aeb97f8f"), looks := true }, kinds := [], alts := [], laidByText := true, laidKinds := [.data, .data, .data, .data, .sentinel, .sentinel, .pinned], laidTests := true, laidLooks := .later }
def WmlinStylesCardSaid : Prop := Claim7.holds Tryz.pinned (.plain (OpenSpec.ofChange wmlinStylesSpec)) wmlinStylesCard

/-- THE TIED CARD OF 'rubricatorlaw16.WmlinNums'. -/
def wmlinNumsCard : Claim7 := { stood := { row := wmlinNumsRow, standIns := [], harness := (true, "b7377b8a012be93cc04eeb34164efa42714b3d9c6375ada6dd6fd0f2aeb97f8f"), looks := true }, kinds := [], alts := [], laidByText := true, laidKinds := [.data, .data, .data, .data, .sentinel, .sentinel, .pinned], laidTests := true, laidLooks := .later }
def WmlinNumsCardSaid : Prop := Claim7.holds Tryz.pinned (.plain (OpenSpec.ofChange wmlinNumsSpec)) wmlinNumsCard

/-- THE SECOND FORM's CARD OF 'rubricatorlaw16.WmlinStyles'. -/
def wmlinStylesUptoCard : Claim7 := { stood := { row := wmlinStylesUptoRow, standIns := [], harness := (true, "b7377b8a012be93cc04eeb34164efa42714b3d9c6375ada6dd6fd0f2aeb97f8f"), looks := true }, kinds := [], alts := [], laidByText := true, laidKinds := [.data, .data, .data, .data, .sentinel, .sentinel, .pinned], laidTests := true, laidLooks := .later }
def WmlinStylesUptoCardSaid : Prop := Claim7.holds Tryz.pinned (.plain (OpenSpec.upto wmlinStylesSpec)) wmlinStylesUptoCard

/-- THE SECOND FORM's CARD OF 'rubricatorlaw16.WmlinNums'. -/
def wmlinNumsUptoCard : Claim7 := { stood := { row := wmlinNumsUptoRow, standIns := [], harness := (true, "b7377b8a012be93cc04eeb34164efa42714b3d9c6375ada6dd6fd0f2aeb97f8f"), looks := true }, kinds := [], alts := [], laidByText := true, laidKinds := [.data, .data, .data, .data, .sentinel, .sentinel, .pinned], laidTests := true, laidLooks := .later }
def WmlinNumsUptoCardSaid : Prop := Claim7.holds Tryz.pinned (.plain (OpenSpec.upto wmlinNumsSpec)) wmlinNumsUptoCard
end Rows
end Go.Proofs.YtlimneghgioeaaaGreatDoor
