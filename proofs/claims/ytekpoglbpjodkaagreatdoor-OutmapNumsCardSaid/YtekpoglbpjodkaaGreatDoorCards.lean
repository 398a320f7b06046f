/-
  DERIVED. GIVEN WITH THE SEED: THE CARDS: each row of YtekpoglbpjodkaaGreatDoorRows.lean that lists a variable, with what it lists TIED to the program's text (the seventh form; the later family's looks); each row that meets fmt, with fmt's text TOLD by the authors' own Lean function (tested against real Go, not proved from fmt's source: count such statements apart). THE CARD IS WHAT COUNTS. Prove the row's statement (the work); the ties are given (YtekpoglbpjodkaaGreatDoorTie.lean); close each card by the builder's one call (the guide's Derived/Test/ToyasCard.lean, 'card_holds'). Laid BY PROGRAM, IN A SANDBOX (cutbox-door.mjs). By AI agents, Wed Nov 11 2026. No macro, syntax, notation, axiom, sorry.
-/
import Derived.Test.YtekpoglbpjodkaaGreatDoorRows
import GoSem.ClaimSeven
namespace Go.Proofs.YtekpoglbpjodkaaGreatDoor
namespace Rows

/-- THE TIED CARD OF 'rubricatorlaw25.OutmapMaps'. -/
def outmapMapsCard : Claim7 := { stood := { row := outmapMapsRow, standIns := [], harness := (true, "6537267ff9134fbc0d009a39b8f79d3374c2e6d35d374d570cdfc46278dda32a"), looks := true }, kinds := [], alts := [], laidByText := true, laidKinds := [.data, .data, .data, .data, .pinned], laidTests := true, laidLooks := .later }
def OutmapMapsCardSaid : Prop := Claim7.holds Tryz.pinned (.plain (OpenSpec.ofChange outmapMapsSpec)) outmapMapsCard

/-- THE TIED CARD OF 'rubricatorlaw25.OutmapDeep'. -/
def outmapDeepCard : Claim7 := { stood := { row := outmapDeepRow, standIns := [], harness := (true, "6537267ff9134fbc0d009a39b8f79d3374c2e6d35d374d570cdfc46278dda32a"), looks := true }, kinds := [], alts := [], laidByText := true, laidKinds := [.data, .data, .data, .data, .pinned], laidTests := true, laidLooks := .later }
def OutmapDeepCardSaid : Prop := Claim7.holds Tryz.pinned (.plain (OpenSpec.ofChange outmapDeepSpec)) outmapDeepCard

/-- THE TIED CARD OF 'rubricatorlaw25.OutmapNums'. -/
def outmapNumsCard : Claim7 := { stood := { row := outmapNumsRow, standIns := [], harness := (true, "6537267ff9134fbc0d009a39b8f79d3374c2e6d35d374d570cdfc46278dda32a"), looks := true }, kinds := [], alts := [], laidByText := true, laidKinds := [.data, .data, .data, .data, .pinned], laidTests := true, laidLooks := .later }
def OutmapNumsCardSaid : Prop := Claim7.holds Tryz.pinned (.plain (OpenSpec.ofChange outmapNumsSpec)) outmapNumsCard

/-- THE SECOND FORM's CARD OF 'rubricatorlaw25.OutmapMaps'. -/
def outmapMapsUptoCard : Claim7 := { stood := { row := outmapMapsUptoRow, standIns := [], harness := (true, "6537267ff9134fbc0d009a39b8f79d3374c2e6d35d374d570cdfc46278dda32a"), looks := true }, kinds := [], alts := [], laidByText := true, laidKinds := [.data, .data, .data, .data, .pinned], laidTests := true, laidLooks := .later }
def OutmapMapsUptoCardSaid : Prop := Claim7.holds Tryz.pinned (.plain (OpenSpec.upto outmapMapsSpec)) outmapMapsUptoCard

/-- THE SECOND FORM's CARD OF 'rubricatorlaw25.OutmapDeep'. -/
def outmapDeepUptoCard : Claim7 := { stood := { row := outmapDeepUptoRow, standIns := [], harness := (true, "6537267ff9134fbc0d009a39b8f79d3374c2e6d35d374d570cdfc46278dda32a"), looks := true }, kinds := [], alts := [], laidByText := true, laidKinds := [.data, .data, .data, .data, .pinned], laidTests := true, laidLooks := .later }
def OutmapDeepUptoCardSaid : Prop := Claim7.holds Tryz.pinned (.plain (OpenSpec.upto outmapDeepSpec)) outmapDeepUptoCard

/-- THE SECOND FORM's CARD OF 'rubricatorlaw25.OutmapNums'. -/
def outmapNumsUptoCard : Claim7 := { stood := { row := outmapNumsUptoRow, standIns := [], harness := (true, "6537267ff9134fbc0d009a39b8f79d3374c2e6d35d374d570cdfc46278dda32a"), looks := true }, kinds := [], alts := [], laidByText := true, laidKinds := [.data, .data, .data, .data, .pinned], laidTests := true, laidLooks := .later }
def OutmapNumsUptoCardSaid : Prop := Claim7.holds Tryz.pinned (.plain (OpenSpec.upto outmapNumsSpec)) outmapNumsUptoCard
end Rows
end Go.Proofs.YtekpoglbpjodkaaGreatDoor
