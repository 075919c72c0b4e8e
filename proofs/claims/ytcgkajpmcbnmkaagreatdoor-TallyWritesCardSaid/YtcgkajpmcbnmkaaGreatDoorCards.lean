/-
  DERIVED. GIVEN WITH THE SEED: THE CARDS: each row of YtcgkajpmcbnmkaaGreatDoorRows.lean that lists a variable, with what it lists TIED to the program's text (the seventh form; the later family's looks); each row that meets fmt, with fmt's text TOLD by the authors' own Lean function (tested against real Go, not proved from fmt's source: count such statements apart). THE CARD IS WHAT COUNTS. Prove the row's statement (the work); the ties are given (YtcgkajpmcbnmkaaGreatDoorTie.lean); close each card by the builder's one call (the guide's Derived/Test/ToyasCard.lean, 'card_holds'). Laid BY PROGRAM, IN A SANDBOX (cutbox-door.mjs). By AI agents, Wed Nov 11 2026. No macro, syntax, notation, axiom, sorry.
-/
import Derived.Test.YtcgkajpmcbnmkaaGreatDoorRows
import GoSem.ClaimSeven
namespace Go.Proofs.YtcgkajpmcbnmkaaGreatDoor
namespace Rows

/-- THE TIED CARD OF 'gunwalelaw27.TallyWrites'. -/
def tallyWritesCard : Claim7 := { stood := { row := tallyWritesRow, standIns := [], harness := (true, "af89c71afa7d002ea1d50945e089d37f3856dc9472422c809d0a8ad6353233e9"), looks := false }, kinds := [], alts := [], laidByText := true, laidKinds := [.data, .pinned], laidTests := true, laidLooks := .later }
def TallyWritesCardSaid : Prop := Claim7.holds Tryz.pinned (.plain (OpenSpec.ofChange tallyWritesSpec)) tallyWritesCard

/-- THE TIED CARD OF 'gunwalelaw27.TallyReads'. -/
def tallyReadsCard : Claim7 := { stood := { row := tallyReadsRow, standIns := [], harness := (true, "af89c71afa7d002ea1d50945e089d37f3856dc9472422c809d0a8ad6353233e9"), looks := false }, kinds := [], alts := [], laidByText := true, laidKinds := [.data, .pinned], laidTests := true, laidLooks := .later }
def TallyReadsCardSaid : Prop := Claim7.holds Tryz.pinned (.plain (OpenSpec.ofChange tallyReadsSpec)) tallyReadsCard

/-- THE TIED CARD OF 'gunwalelaw27.TallyBack'. -/
def tallyBackCard : Claim7 := { stood := { row := tallyBackRow, standIns := [], harness := (true, "af89c71afa7d002ea1d50945e089d37f3856dc9472422c809d0a8ad6353233e9"), looks := false }, kinds := [], alts := [], laidByText := true, laidKinds := [.data, .pinned], laidTests := true, laidLooks := .later }
def TallyBackCardSaid : Prop := Claim7.holds Tryz.pinned (.plain (OpenSpec.ofChange tallyBackSpec)) tallyBackCard

/-- THE SECOND FORM's CARD OF 'gunwalelaw27.TallyWrites'. -/
def tallyWritesUptoCard : Claim7 := { stood := { row := tallyWritesUptoRow, standIns := [], harness := (true, "af89c71afa7d002ea1d50945e089d37f3856dc9472422c809d0a8ad6353233e9"), looks := false }, kinds := [], alts := [], laidByText := true, laidKinds := [.data, .pinned], laidTests := true, laidLooks := .later }
def TallyWritesUptoCardSaid : Prop := Claim7.holds Tryz.pinned (.plain (OpenSpec.upto tallyWritesSpec)) tallyWritesUptoCard

/-- THE SECOND FORM's CARD OF 'gunwalelaw27.TallyReads'. -/
def tallyReadsUptoCard : Claim7 := { stood := { row := tallyReadsUptoRow, standIns := [], harness := (true, "af89c71afa7d002ea1d50945e089d37f3856dc9472422c809d0a8ad6353233e9"), looks := false }, kinds := [], alts := [], laidByText := true, laidKinds := [.data, .pinned], laidTests := true, laidLooks := .later }
def TallyReadsUptoCardSaid : Prop := Claim7.holds Tryz.pinned (.plain (OpenSpec.upto tallyReadsSpec)) tallyReadsUptoCard

/-- THE SECOND FORM's CARD OF 'gunwalelaw27.TallyBack'. -/
def tallyBackUptoCard : Claim7 := { stood := { row := tallyBackUptoRow, standIns := [], harness := (true, "af89c71afa7d002ea1d50945e089d37f3856dc9472422c809d0a8ad6353233e9"), looks := false }, kinds := [], alts := [], laidByText := true, laidKinds := [.data, .pinned], laidTests := true, laidLooks := .later }
def TallyBackUptoCardSaid : Prop := Claim7.holds Tryz.pinned (.plain (OpenSpec.upto tallyBackSpec)) tallyBackUptoCard
end Rows
end Go.Proofs.YtcgkajpmcbnmkaaGreatDoor
