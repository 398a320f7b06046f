/-
  DERIVED. GIVEN WITH THE SEED: THE CARDS: each row of YtmnajffpmbidiaaGreatDoorRows.lean that lists a variable, with what it lists TIED to the program's text (the seventh form; the later family's looks); each row that meets fmt, with fmt's text TOLD by the authors' own Lean function (tested against real Go, not proved from fmt's source: count such statements apart). THE CARD IS WHAT COUNTS. Prove the row's statement (the work); the ties are given (YtmnajffpmbidiaaGreatDoorTie.lean); close each card by the builder's one call (the guide's Derived/Test/ToyasCard.lean, 'card_holds'). Laid BY PROGRAM, IN A SANDBOX (cutbox-door.mjs). By AI agents, Wed Nov 11 2026. No macro, syntax, notation, axiom, sorry.
-/
import Derived.Test.YtmnajffpmbidiaaGreatDoorRows
import GoSem.ClaimSeven
namespace Go.Proofs.YtmnajffpmbidiaaGreatDoor
namespace Rows

/-- THE TIED CARD OF 'rubricatorlaw10.XmlReads'. -/
def xmlReadsCard : Claim7 := { stood := { row := xmlReadsRow, standIns := [], harness := (true, "28efc484a666b138a1a4b83457e7e95c07518376e5d3cce32d3faf16c861703b"), looks := true }, kinds := [], alts := [], laidByText := true, laidKinds := [.data, .data, .data, .data, .sentinel, .sentinel, .data, .data, .pinned, .pinned], laidTests := true, laidLooks := .later }
def XmlReadsCardSaid : Prop := Claim7.holds Tryz.pinned (.plain (OpenSpec.ofChange xmlReadsSpec)) xmlReadsCard

/-- THE TIED CARD OF 'rubricatorlaw10.XmlText'. -/
def xmlTextCard : Claim7 := { stood := { row := xmlTextRow, standIns := [], harness := (true, "28efc484a666b138a1a4b83457e7e95c07518376e5d3cce32d3faf16c861703b"), looks := true }, kinds := [], alts := [], laidByText := true, laidKinds := [.data, .data, .data, .data, .sentinel, .sentinel, .data, .data, .pinned, .pinned], laidTests := true, laidLooks := .later }
def XmlTextCardSaid : Prop := Claim7.holds Tryz.pinned (.plain (OpenSpec.ofChange xmlTextSpec)) xmlTextCard

/-- THE TIED CARD OF 'rubricatorlaw10.XmlDeep'. -/
def xmlDeepCard : Claim7 := { stood := { row := xmlDeepRow, standIns := [], harness := (true, "28efc484a666b138a1a4b83457e7e95c07518376e5d3cce32d3faf16c861703b"), looks := true }, kinds := [], alts := [], laidByText := true, laidKinds := [.data, .data, .data, .data, .sentinel, .sentinel, .data, .data, .pinned, .pinned], laidTests := true, laidLooks := .later }
def XmlDeepCardSaid : Prop := Claim7.holds Tryz.pinned (.plain (OpenSpec.ofChange xmlDeepSpec)) xmlDeepCard

/-- THE TIED CARD OF 'rubricatorlaw10.XmlSpaces'. -/
def xmlSpacesCard : Claim7 := { stood := { row := xmlSpacesRow, standIns := [], harness := (true, "28efc484a666b138a1a4b83457e7e95c07518376e5d3cce32d3faf16c861703b"), looks := true }, kinds := [], alts := [], laidByText := true, laidKinds := [.data, .data, .data, .data, .sentinel, .sentinel, .data, .data, .pinned, .pinned], laidTests := true, laidLooks := .later }
def XmlSpacesCardSaid : Prop := Claim7.holds Tryz.pinned (.plain (OpenSpec.ofChange xmlSpacesSpec)) xmlSpacesCard

/-- THE TIED CARD OF 'rubricatorlaw10.XmlTwice'. -/
def xmlTwiceCard : Claim7 := { stood := { row := xmlTwiceRow, standIns := [], harness := (true, "28efc484a666b138a1a4b83457e7e95c07518376e5d3cce32d3faf16c861703b"), looks := true }, kinds := [], alts := [], laidByText := true, laidKinds := [.data, .data, .data, .data, .sentinel, .sentinel, .data, .data, .pinned, .pinned], laidTests := true, laidLooks := .later }
def XmlTwiceCardSaid : Prop := Claim7.holds Tryz.pinned (.plain (OpenSpec.ofChange xmlTwiceSpec)) xmlTwiceCard

/-- THE TIED CARD OF 'rubricatorlaw10.XmlEnds'. -/
def xmlEndsCard : Claim7 := { stood := { row := xmlEndsRow, standIns := [], harness := (true, "28efc484a666b138a1a4b83457e7e95c07518376e5d3cce32d3faf16c861703b"), looks := true }, kinds := [], alts := [], laidByText := true, laidKinds := [.data, .data, .data, .data, .sentinel, .sentinel, .data, .data, .pinned, .pinned], laidTests := true, laidLooks := .later }
def XmlEndsCardSaid : Prop := Claim7.holds Tryz.pinned (.plain (OpenSpec.ofChange xmlEndsSpec)) xmlEndsCard

/-- THE TIED CARD OF 'rubricatorlaw10.XmlMisc'. -/
def xmlMiscCard : Claim7 := { stood := { row := xmlMiscRow, standIns := [], harness := (true, "28efc484a666b138a1a4b83457e7e95c07518376e5d3cce32d3faf16c861703b"), looks := true }, kinds := [], alts := [], laidByText := true, laidKinds := [.data, .data, .data, .data, .sentinel, .sentinel, .data, .data, .pinned, .pinned], laidTests := true, laidLooks := .later }
def XmlMiscCardSaid : Prop := Claim7.holds Tryz.pinned (.plain (OpenSpec.ofChange xmlMiscSpec)) xmlMiscCard

/-- THE TIED CARD OF 'rubricatorlaw10.XmlNames'. -/
def xmlNamesCard : Claim7 := { stood := { row := xmlNamesRow, standIns := [], harness := (true, "28efc484a666b138a1a4b83457e7e95c07518376e5d3cce32d3faf16c861703b"), looks := true }, kinds := [], alts := [], laidByText := true, laidKinds := [.data, .data, .data, .data, .sentinel, .sentinel, .data, .data, .pinned, .pinned], laidTests := true, laidLooks := .later }
def XmlNamesCardSaid : Prop := Claim7.holds Tryz.pinned (.plain (OpenSpec.ofChange xmlNamesSpec)) xmlNamesCard

/-- THE TIED CARD OF 'rubricatorlaw10.XmlFinds'. -/
def xmlFindsCard : Claim7 := { stood := { row := xmlFindsRow, standIns := [], harness := (true, "28efc484a666b138a1a4b83457e7e95c07518376e5d3cce32d3faf16c861703b"), looks := true }, kinds := [], alts := [], laidByText := true, laidKinds := [.data, .data, .data, .data, .sentinel, .sentinel, .data, .data, .pinned, .pinned], laidTests := true, laidLooks := .later }
def XmlFindsCardSaid : Prop := Claim7.holds Tryz.pinned (.plain (OpenSpec.ofChange xmlFindsSpec)) xmlFindsCard

/-- THE SECOND FORM's CARD OF 'rubricatorlaw10.XmlReads'. -/
def xmlReadsUptoCard : Claim7 := { stood := { row := xmlReadsUptoRow, standIns := [], harness := (true, "28efc484a666b138a1a4b83457e7e95c07518376e5d3cce32d3faf16c861703b"), looks := true }, kinds := [], alts := [], laidByText := true, laidKinds := [.data, .data, .data, .data, .sentinel, .sentinel, .data, .data, .pinned, .pinned], laidTests := true, laidLooks := .later }
def XmlReadsUptoCardSaid : Prop := Claim7.holds Tryz.pinned (.plain (OpenSpec.upto xmlReadsSpec)) xmlReadsUptoCard

/-- THE SECOND FORM's CARD OF 'rubricatorlaw10.XmlText'. -/
def xmlTextUptoCard : Claim7 := { stood := { row := xmlTextUptoRow, standIns := [], harness := (true, "28efc484a666b138a1a4b83457e7e95c07518376e5d3cce32d3faf16c861703b"), looks := true }, kinds := [], alts := [], laidByText := true, laidKinds := [.data, .data, .data, .data, .sentinel, .sentinel, .data, .data, .pinned, .pinned], laidTests := true, laidLooks := .later }
def XmlTextUptoCardSaid : Prop := Claim7.holds Tryz.pinned (.plain (OpenSpec.upto xmlTextSpec)) xmlTextUptoCard

/-- THE SECOND FORM's CARD OF 'rubricatorlaw10.XmlDeep'. -/
def xmlDeepUptoCard : Claim7 := { stood := { row := xmlDeepUptoRow, standIns := [], harness := (true, "28efc484a666b138a1a4b83457e7e95c07518376e5d3cce32d3faf16c861703b"), looks := true }, kinds := [], alts := [], laidByText := true, laidKinds := [.data, .data, .data, .data, .sentinel, .sentinel, .data, .data, .pinned, .pinned], laidTests := true, laidLooks := .later }
def XmlDeepUptoCardSaid : Prop := Claim7.holds Tryz.pinned (.plain (OpenSpec.upto xmlDeepSpec)) xmlDeepUptoCard

/-- THE SECOND FORM's CARD OF 'rubricatorlaw10.XmlSpaces'. -/
def xmlSpacesUptoCard : Claim7 := { stood := { row := xmlSpacesUptoRow, standIns := [], harness := (true, "28efc484a666b138a1a4b83457e7e95c07518376e5d3cce32d3faf16c861703b"), looks := true }, kinds := [], alts := [], laidByText := true, laidKinds := [.data, .data, .data, .data, .sentinel, .sentinel, .data, .data, .pinned, .pinned], laidTests := true, laidLooks := .later }
def XmlSpacesUptoCardSaid : Prop := Claim7.holds Tryz.pinned (.plain (OpenSpec.upto xmlSpacesSpec)) xmlSpacesUptoCard

/-- THE SECOND FORM's CARD OF 'rubricatorlaw10.XmlTwice'. -/
def xmlTwiceUptoCard : Claim7 := { stood := { row := xmlTwiceUptoRow, standIns := [], harness := (true, "28efc484a666b138a1a4b83457e7e95c07518376e5d3cce32d3faf16c861703b"), looks := true }, kinds := [], alts := [], laidByText := true, laidKinds := [.data, .data, .data, .data, .sentinel, .sentinel, .data, .data, .pinned, .pinned], laidTests := true, laidLooks := .later }
def XmlTwiceUptoCardSaid : Prop := Claim7.holds Tryz.pinned (.plain (OpenSpec.upto xmlTwiceSpec)) xmlTwiceUptoCard

/-- THE SECOND FORM's CARD OF 'rubricatorlaw10.XmlEnds'. -/
def xmlEndsUptoCard : Claim7 := { stood := { row := xmlEndsUptoRow, standIns := [], harness := (true, "28efc484a666b138a1a4b83457e7e95c07518376e5d3cce32d3faf16c861703b"), looks := true }, kinds := [], alts := [], laidByText := true, laidKinds := [.data, .data, .data, .data, .sentinel, .sentinel, .data, .data, .pinned, .pinned], laidTests := true, laidLooks := .later }
def XmlEndsUptoCardSaid : Prop := Claim7.holds Tryz.pinned (.plain (OpenSpec.upto xmlEndsSpec)) xmlEndsUptoCard

/-- THE SECOND FORM's CARD OF 'rubricatorlaw10.XmlMisc'. -/
def xmlMiscUptoCard : Claim7 := { stood := { row := xmlMiscUptoRow, standIns := [], harness := (true, "28efc484a666b138a1a4b83457e7e95c07518376e5d3cce32d3faf16c861703b"), looks := true }, kinds := [], alts := [], laidByText := true, laidKinds := [.data, .data, .data, .data, .sentinel, .sentinel, .data, .data, .pinned, .pinned], laidTests := true, laidLooks := .later }
def XmlMiscUptoCardSaid : Prop := Claim7.holds Tryz.pinned (.plain (OpenSpec.upto xmlMiscSpec)) xmlMiscUptoCard

/-- THE SECOND FORM's CARD OF 'rubricatorlaw10.XmlNames'. -/
def xmlNamesUptoCard : Claim7 := { stood := { row := xmlNamesUptoRow, standIns := [], harness := (true, "28efc484a666b138a1a4b83457e7e95c07518376e5d3cce32d3faf16c861703b"), looks := true }, kinds := [], alts := [], laidByText := true, laidKinds := [.data, .data, .data, .data, .sentinel, .sentinel, .data, .data, .pinned, .pinned], laidTests := true, laidLooks := .later }
def XmlNamesUptoCardSaid : Prop := Claim7.holds Tryz.pinned (.plain (OpenSpec.upto xmlNamesSpec)) xmlNamesUptoCard

/-- THE SECOND FORM's CARD OF 'rubricatorlaw10.XmlFinds'. -/
def xmlFindsUptoCard : Claim7 := { stood := { row := xmlFindsUptoRow, standIns := [], harness := (true, "28efc484a666b138a1a4b83457e7e95c07518376e5d3cce32d3faf16c861703b"), looks := true }, kinds := [], alts := [], laidByText := true, laidKinds := [.data, .data, .data, .data, .sentinel, .sentinel, .data, .data, .pinned, .pinned], laidTests := true, laidLooks := .later }
def XmlFindsUptoCardSaid : Prop := Claim7.holds Tryz.pinned (.plain (OpenSpec.upto xmlFindsSpec)) xmlFindsUptoCard
end Rows
end Go.Proofs.YtmnajffpmbidiaaGreatDoor
