/-
  DERIVED. GIVEN WITH THE SEED: THE CARDS: each row of YtheklpaoigbdnaaGreatDoorRows.lean that lists a variable, with what it lists TIED to the program's text (the seventh form; the later family's looks); each row that meets fmt, with fmt's text TOLD by the authors' own Lean function (tested against real Go, not proved from fmt's source: count such statements apart). THE CARD IS WHAT COUNTS. Prove the row's statement (the work); the ties are given (YtheklpaoigbdnaaGreatDoorTie.lean); close each card by the builder's one call (the guide's Derived/Test/ToyasCard.lean, 'card_holds'). Laid BY PROGRAM, IN A SANDBOX (cutbox-door.mjs). By AI agents, Wed Nov 11 2026. No macro, syntax, notation, axiom, sorry.
-/
import Derived.Test.YtheklpaoigbdnaaGreatDoorRows
import GoSem.ClaimSeven
namespace Go.Proofs.YtheklpaoigbdnaaGreatDoor
namespace Rows

/-- THE TIED CARD OF 'gunwalelaw14.ActsetWrites'. -/
def actsetWritesCard : Claim7 := { stood := { row := actsetWritesRow, standIns := [], harness := (true, "7966da624f995c8cddf5bf2f3fef202d5f18a0a23653ac940c49f11320c614f9"), looks := false }, kinds := [], alts := [], laidByText := true, laidKinds := [.data, .pinned], laidTests := true, laidLooks := .later }
def ActsetWritesCardSaid : Prop := Claim7.holds Tryz.pinned (.plain (OpenSpec.ofChange actsetWritesSpec)) actsetWritesCard

/-- THE SECOND FORM's CARD OF 'gunwalelaw14.ActsetWrites'. -/
def actsetWritesUptoCard : Claim7 := { stood := { row := actsetWritesUptoRow, standIns := [], harness := (true, "7966da624f995c8cddf5bf2f3fef202d5f18a0a23653ac940c49f11320c614f9"), looks := false }, kinds := [], alts := [], laidByText := true, laidKinds := [.data, .pinned], laidTests := true, laidLooks := .later }
def ActsetWritesUptoCardSaid : Prop := Claim7.holds Tryz.pinned (.plain (OpenSpec.upto actsetWritesSpec)) actsetWritesUptoCard
end Rows
end Go.Proofs.YtheklpaoigbdnaaGreatDoor
