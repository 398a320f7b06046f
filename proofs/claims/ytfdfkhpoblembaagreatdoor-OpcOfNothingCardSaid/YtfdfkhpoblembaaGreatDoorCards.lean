/-
  DERIVED. GIVEN WITH THE SEED: THE CARDS: each row of YtfdfkhpoblembaaGreatDoorRows.lean that lists a variable, with what it lists TIED to the program's text (the seventh form; the later family's looks); each row that meets fmt, with fmt's text TOLD by the authors' own Lean function (tested against real Go, not proved from fmt's source: count such statements apart). THE CARD IS WHAT COUNTS. Prove the row's statement (the work); the ties are given (YtfdfkhpoblembaaGreatDoorTie.lean); close each card by the builder's one call (the guide's Derived/Test/ToyasCard.lean, 'card_holds'). Laid BY PROGRAM, IN A SANDBOX (cutbox-door.mjs). By AI agents, Wed Nov 11 2026. No macro, syntax, notation, axiom, sorry.
-/
import Derived.Test.YtfdfkhpoblembaaGreatDoorRows
import GoSem.ClaimSeven
namespace Go.Proofs.YtfdfkhpoblembaaGreatDoor
namespace Rows

/-- THE TIED CARD OF 'rubricatorlaw13.OpcPlays'. -/
def opcPlaysCard : Claim7 := { stood := { row := opcPlaysRow, standIns := [], harness := (true, "3572007c943de27eafcdd763ae3190d46fab8cc73913ca8adb892d5066701d50"), looks := true }, kinds := [], alts := [], laidByText := true, laidKinds := [.data, .pinned], laidTests := true, laidLooks := .later }
def OpcPlaysCardSaid : Prop := Claim7.holds Tryz.pinned (.plain (OpenSpec.ofChange opcPlaysSpec)) opcPlaysCard

/-- THE TIED CARD OF 'rubricatorlaw13.OpcTurns'. -/
def opcTurnsCard : Claim7 := { stood := { row := opcTurnsRow, standIns := [], harness := (true, "3572007c943de27eafcdd763ae3190d46fab8cc73913ca8adb892d5066701d50"), looks := true }, kinds := [], alts := [], laidByText := true, laidKinds := [.data, .pinned], laidTests := true, laidLooks := .later }
def OpcTurnsCardSaid : Prop := Claim7.holds Tryz.pinned (.plain (OpenSpec.ofChange opcTurnsSpec)) opcTurnsCard

/-- THE TIED CARD OF 'rubricatorlaw13.OpcOfNothing'. -/
def opcOfNothingCard : Claim7 := { stood := { row := opcOfNothingRow, standIns := [], harness := (true, "3572007c943de27eafcdd763ae3190d46fab8cc73913ca8adb892d5066701d50"), looks := true }, kinds := [], alts := [], laidByText := true, laidKinds := [.data, .data, .data, .data, .pinned], laidTests := true, laidLooks := .later }
def OpcOfNothingCardSaid : Prop := Claim7.holds Tryz.pinned (.plain (OpenSpec.ofChange opcOfNothingSpec)) opcOfNothingCard

/-- THE SECOND FORM's CARD OF 'rubricatorlaw13.OpcPlays'. -/
def opcPlaysUptoCard : Claim7 := { stood := { row := opcPlaysUptoRow, standIns := [], harness := (true, "3572007c943de27eafcdd763ae3190d46fab8cc73913ca8adb892d5066701d50"), looks := true }, kinds := [], alts := [], laidByText := true, laidKinds := [.data, .pinned], laidTests := true, laidLooks := .later }
def OpcPlaysUptoCardSaid : Prop := Claim7.holds Tryz.pinned (.plain (OpenSpec.upto opcPlaysSpec)) opcPlaysUptoCard

/-- THE SECOND FORM's CARD OF 'rubricatorlaw13.OpcTurns'. -/
def opcTurnsUptoCard : Claim7 := { stood := { row := opcTurnsUptoRow, standIns := [], harness := (true, "3572007c943de27eafcdd763ae3190d46fab8cc73913ca8adb892d5066701d50"), looks := true }, kinds := [], alts := [], laidByText := true, laidKinds := [.data, .pinned], laidTests := true, laidLooks := .later }
def OpcTurnsUptoCardSaid : Prop := Claim7.holds Tryz.pinned (.plain (OpenSpec.upto opcTurnsSpec)) opcTurnsUptoCard

/-- THE SECOND FORM's CARD OF 'rubricatorlaw13.OpcOfNothing'. -/
def opcOfNothingUptoCard : Claim7 := { stood := { row := opcOfNothingUptoRow, standIns := [], harness := (true, "3572007c943de27eafcdd763ae3190d46fab8cc73913ca8adb892d5066701d50"), looks := true }, kinds := [], alts := [], laidByText := true, laidKinds := [.data, .data, .data, .data, .pinned], laidTests := true, laidLooks := .later }
def OpcOfNothingUptoCardSaid : Prop := Claim7.holds Tryz.pinned (.plain (OpenSpec.upto opcOfNothingSpec)) opcOfNothingUptoCard
end Rows
end Go.Proofs.YtfdfkhpoblembaaGreatDoor
