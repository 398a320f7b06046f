/-
  DERIVED. GIVEN WITH THE SEED: THE CARDS: each row of YtmhhddhbdbcmbaaGreatDoorRows.lean that lists a variable, with what it lists TIED to the program's text (the seventh form; the later family's looks); each row that meets fmt, with fmt's text TOLD by the authors' own Lean function (tested against real Go, not proved from fmt's source: count such statements apart). THE CARD IS WHAT COUNTS. Prove the row's statement (the work); the ties are given (YtmhhddhbdbcmbaaGreatDoorTie.lean); close each card by the builder's one call (the guide's Derived/Test/ToyasCard.lean, 'card_holds'). Laid BY PROGRAM, IN A SANDBOX (cutbox-door.mjs). By AI agents, Wed Nov 11 2026. No macro, syntax, notation, axiom, sorry.
-/
import Derived.Test.YtmhhddhbdbcmbaaGreatDoorRows
import GoSem.ClaimSeven
namespace Go.Proofs.YtmhhddhbdbcmbaaGreatDoor
namespace Rows

/-- THE TIED CARD OF 'rubricatorlaw16.WmlinDocuments'. -/
def wmlinDocumentsCard : Claim7 := { stood := { row := wmlinDocumentsRow, standIns := [], harness := (true, "55bec3979fe4b8c1d43487eec5db5aba50d47a958f5163b972eac7588190cfa2"), looks := true }, kinds := [], alts := [], laidByText := true, laidKinds := [.data, .data, .data, .data, .sentinel, .sentinel, .pinned], laidTests := true, laidLooks := .later }
def WmlinDocumentsCardSaid : Prop := Claim7.holds Tryz.pinned (.plain (OpenSpec.ofChange wmlinDocumentsSpec)) wmlinDocumentsCard

/-- THE TIED CARD OF 'rubricatorlaw16.WmlinSpells'. -/
def wmlinSpellsCard : Claim7 := { stood := { row := wmlinSpellsRow, standIns := [], harness := (true, "55bec3979fe4b8c1d43487eec5db5aba50d47a958f5163b972eac7588190cfa2"), looks := true }, kinds := [], alts := [], laidByText := true, laidKinds := [.data, .data, .data, .data, .sentinel, .sentinel, .pinned], laidTests := true, laidLooks := .later }
def WmlinSpellsCardSaid : Prop := Claim7.holds Tryz.pinned (.plain (OpenSpec.ofChange wmlinSpellsSpec)) wmlinSpellsCard

/-- THE TIED CARD OF 'rubricatorlaw16.WmlinSkips'. -/
def wmlinSkipsCard : Claim7 := { stood := { row := wmlinSkipsRow, standIns := [], harness := (true, "55bec3979fe4b8c1d43487eec5db5aba50d47a958f5163b972eac7588190cfa2"), looks := true }, kinds := [], alts := [], laidByText := true, laidKinds := [.data, .data, .data, .data, .sentinel, .sentinel, .pinned], laidTests := true, laidLooks := .later }
def WmlinSkipsCardSaid : Prop := Claim7.holds Tryz.pinned (.plain (OpenSpec.ofChange wmlinSkipsSpec)) wmlinSkipsCard

/-- THE TIED CARD OF 'rubricatorlaw16.WmlinInserted'. -/
def wmlinInsertedCard : Claim7 := { stood := { row := wmlinInsertedRow, standIns := [], harness := (true, "55bec3979fe4b8c1d43487eec5db5aba50d47a958f5163b972eac7588190cfa2"), looks := true }, kinds := [], alts := [], laidByText := true, laidKinds := [.data, .data, .data, .data, .sentinel, .sentinel, .pinned], laidTests := true, laidLooks := .later }
def WmlinInsertedCardSaid : Prop := Claim7.holds Tryz.pinned (.plain (OpenSpec.ofChange wmlinInsertedSpec)) wmlinInsertedCard

/-- THE TIED CARD OF 'rubricatorlaw16.WmlinBack'. -/
def wmlinBackCard : Claim7 := { stood := { row := wmlinBackRow, standIns := [], harness := (true, "55bec3979fe4b8c1d43487eec5db5aba50d47a958f5163b972eac7588190cfa2"), looks := true }, kinds := [], alts := [], laidByText := true, laidKinds := [.data, .data, .data, .data, .sentinel, .sentinel, .pinned], laidTests := true, laidLooks := .later }
def WmlinBackCardSaid : Prop := Claim7.holds Tryz.pinned (.plain (OpenSpec.ofChange wmlinBackSpec)) wmlinBackCard

/-- THE SECOND FORM's CARD OF 'rubricatorlaw16.WmlinDocuments'. -/
def wmlinDocumentsUptoCard : Claim7 := { stood := { row := wmlinDocumentsUptoRow, standIns := [], harness := (true, "55bec3979fe4b8c1d43487eec5db5aba50d47a958f5163b972eac7588190cfa2"), looks := true }, kinds := [], alts := [], laidByText := true, laidKinds := [.data, .data, .data, .data, .sentinel, .sentinel, .pinned], laidTests := true, laidLooks := .later }
def WmlinDocumentsUptoCardSaid : Prop := Claim7.holds Tryz.pinned (.plain (OpenSpec.upto wmlinDocumentsSpec)) wmlinDocumentsUptoCard

/-- THE SECOND FORM's CARD OF 'rubricatorlaw16.WmlinSpells'. -/
def wmlinSpellsUptoCard : Claim7 := { stood := { row := wmlinSpellsUptoRow, standIns := [], harness := (true, "55bec3979fe4b8c1d43487eec5db5aba50d47a958f5163b972eac7588190cfa2"), looks := true }, kinds := [], alts := [], laidByText := true, laidKinds := [.data, .data, .data, .data, .sentinel, .sentinel, .pinned], laidTests := true, laidLooks := .later }
def WmlinSpellsUptoCardSaid : Prop := Claim7.holds Tryz.pinned (.plain (OpenSpec.upto wmlinSpellsSpec)) wmlinSpellsUptoCard

/-- THE SECOND FORM's CARD OF 'rubricatorlaw16.WmlinSkips'. -/
def wmlinSkipsUptoCard : Claim7 := { stood := { row := wmlinSkipsUptoRow, standIns := [], harness := (true, "55bec3979fe4b8c1d43487eec5db5aba50d47a958f5163b972eac7588190cfa2"), looks := true }, kinds := [], alts := [], laidByText := true, laidKinds := [.data, .data, .data, .data, .sentinel, .sentinel, .pinned], laidTests := true, laidLooks := .later }
def WmlinSkipsUptoCardSaid : Prop := Claim7.holds Tryz.pinned (.plain (OpenSpec.upto wmlinSkipsSpec)) wmlinSkipsUptoCard

/-- THE SECOND FORM's CARD OF 'rubricatorlaw16.WmlinInserted'. -/
def wmlinInsertedUptoCard : Claim7 := { stood := { row := wmlinInsertedUptoRow, standIns := [], harness := (true, "55bec3979fe4b8c1d43487eec5db5aba50d47a958f5163b972eac7588190cfa2"), looks := true }, kinds := [], alts := [], laidByText := true, laidKinds := [.data, .data, .data, .data, .sentinel, .sentinel, .pinned], laidTests := true, laidLooks := .later }
def WmlinInsertedUptoCardSaid : Prop := Claim7.holds Tryz.pinned (.plain (OpenSpec.upto wmlinInsertedSpec)) wmlinInsertedUptoCard

/-- THE SECOND FORM's CARD OF 'rubricatorlaw16.WmlinBack'. -/
def wmlinBackUptoCard : Claim7 := { stood := { row := wmlinBackUptoRow, standIns := [], harness := (true, "55bec3979fe4b8c1d43487eec5db5aba50d47a958f5163b972eac7588190cfa2"), looks := true }, kinds := [], alts := [], laidByText := true, laidKinds := [.data, .data, .data, .data, .sentinel, .sentinel, .pinned], laidTests := true, laidLooks := .later }
def WmlinBackUptoCardSaid : Prop := Claim7.holds Tryz.pinned (.plain (OpenSpec.upto wmlinBackSpec)) wmlinBackUptoCard
end Rows
end Go.Proofs.YtmhhddhbdbcmbaaGreatDoor
