/-
  DERIVED. GIVEN WITH THE SEED: THE CARDS: each row of YtjajlkddpekdjaaGreatDoorRows.lean that lists a variable, with what it lists TIED to the program's text (the seventh form; the later family's looks); each row that meets fmt, with fmt's text TOLD by the authors' own Lean function (tested against real Go, not proved from fmt's source: count such statements apart). THE CARD IS WHAT COUNTS. Prove the row's statement (the work); the ties are given (YtjajlkddpekdjaaGreatDoorTie.lean); close each card by the builder's one call (the guide's Derived/Test/ToyasCard.lean, 'card_holds'). Laid BY PROGRAM, IN A SANDBOX (cutbox-door.mjs). By AI agents, Wed Nov 11 2026. No macro, syntax, notation, axiom, sorry.
-/
import Derived.Test.YtjajlkddpekdjaaGreatDoorRows
import GoSem.ClaimSeven
namespace Go.Proofs.YtjajlkddpekdjaaGreatDoor
namespace Rows

/-- THE TIED CARD OF 'gunwalelaw11.CoverMeets'. -/
def coverMeetsCard : Claim7 := { stood := { row := coverMeetsRow, standIns := [], harness := (true, "e1b427cf116c54e54e7af592d8ba35a902dc5b95eebc7667e7d9625d9025b484"), looks := false }, kinds := [], alts := [], laidByText := true, laidKinds := [.data, .pinned], laidTests := true, laidLooks := .later }
def CoverMeetsCardSaid : Prop := Claim7.holds Tryz.pinned (.plain (OpenSpec.ofChange coverMeetsSpec)) coverMeetsCard

/-- THE TIED CARD OF 'gunwalelaw11.CoverWhole'. -/
def coverWholeCard : Claim7 := { stood := { row := coverWholeRow, standIns := [], harness := (true, "e1b427cf116c54e54e7af592d8ba35a902dc5b95eebc7667e7d9625d9025b484"), looks := false }, kinds := [], alts := [], laidByText := true, laidKinds := [.data, .pinned], laidTests := true, laidLooks := .later }
def CoverWholeCardSaid : Prop := Claim7.holds Tryz.pinned (.plain (OpenSpec.ofChange coverWholeSpec)) coverWholeCard

/-- THE SECOND FORM's CARD OF 'gunwalelaw11.CoverMeets'. -/
def coverMeetsUptoCard : Claim7 := { stood := { row := coverMeetsUptoRow, standIns := [], harness := (true, "e1b427cf116c54e54e7af592d8ba35a902dc5b95eebc7667e7d9625d9025b484"), looks := false }, kinds := [], alts := [], laidByText := true, laidKinds := [.data, .pinned], laidTests := true, laidLooks := .later }
def CoverMeetsUptoCardSaid : Prop := Claim7.holds Tryz.pinned (.plain (OpenSpec.upto coverMeetsSpec)) coverMeetsUptoCard

/-- THE SECOND FORM's CARD OF 'gunwalelaw11.CoverWhole'. -/
def coverWholeUptoCard : Claim7 := { stood := { row := coverWholeUptoRow, standIns := [], harness := (true, "e1b427cf116c54e54e7af592d8ba35a902dc5b95eebc7667e7d9625d9025b484"), looks := false }, kinds := [], alts := [], laidByText := true, laidKinds := [.data, .pinned], laidTests := true, laidLooks := .later }
def CoverWholeUptoCardSaid : Prop := Claim7.holds Tryz.pinned (.plain (OpenSpec.upto coverWholeSpec)) coverWholeUptoCard
end Rows
end Go.Proofs.YtjajlkddpekdjaaGreatDoor
