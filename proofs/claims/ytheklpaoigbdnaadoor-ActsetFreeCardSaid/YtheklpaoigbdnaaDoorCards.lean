/-
  DERIVED. GIVEN WITH THE SEED: THE CARDS: each row of YtheklpaoigbdnaaDoorRows.lean that lists a variable, with what it lists TIED to the program's text (the seventh form; the later family's looks); each row that meets fmt, with fmt's text TOLD by the authors' own Lean function (tested against real Go, not proved from fmt's source: count such statements apart). THE CARD IS WHAT COUNTS. Prove the row's statement (the work); the ties are given (YtheklpaoigbdnaaDoorTie.lean); close each card by the builder's one call (the guide's Derived/Test/ToyasCard.lean, 'card_holds'). Laid BY PROGRAM, IN A SANDBOX (cutbox-door.mjs). By AI agents, Wed Nov 11 2026. No macro, syntax, notation, axiom, sorry.
-/
import Derived.Test.YtheklpaoigbdnaaDoorRows
import GoSem.ClaimSeven
namespace Go.Proofs.YtheklpaoigbdnaaDoor
namespace Rows

/-- THE TIED CARD OF 'gunwalelaw14.ActsetTwice'. -/
def actsetTwiceCard : Claim7 := { stood := { row := actsetTwiceRow, standIns := [], harness := (true, "fb2e118e6b62ef09e1fc2627d244a7d781485f52585e91d64384c592a5cc4f94"), looks := false }, kinds := [], alts := [], laidByText := true, laidKinds := [.data, .pinned], laidTests := true, laidLooks := .later }
def ActsetTwiceCardSaid : Prop := Claim7.holds Tryd.pinned (.plain (OpenSpec.ofChange actsetTwiceSpec)) actsetTwiceCard

/-- THE TIED CARD OF 'gunwalelaw14.ActsetFree'. -/
def actsetFreeCard : Claim7 := { stood := { row := actsetFreeRow, standIns := [], harness := (true, "fb2e118e6b62ef09e1fc2627d244a7d781485f52585e91d64384c592a5cc4f94"), looks := false }, kinds := [], alts := [], laidByText := true, laidKinds := [.data, .pinned], laidTests := true, laidLooks := .later }
def ActsetFreeCardSaid : Prop := Claim7.holds Tryd.pinned (.plain (OpenSpec.ofChange actsetFreeSpec)) actsetFreeCard

/-- THE SECOND FORM's CARD OF 'gunwalelaw14.ActsetTwice'. -/
def actsetTwiceUptoCard : Claim7 := { stood := { row := actsetTwiceUptoRow, standIns := [], harness := (true, "fb2e118e6b62ef09e1fc2627d244a7d781485f52585e91d64384c592a5cc4f94"), looks := false }, kinds := [], alts := [], laidByText := true, laidKinds := [.data, .pinned], laidTests := true, laidLooks := .later }
def ActsetTwiceUptoCardSaid : Prop := Claim7.holds Tryd.pinned (.plain (OpenSpec.upto actsetTwiceSpec)) actsetTwiceUptoCard

/-- THE SECOND FORM's CARD OF 'gunwalelaw14.ActsetFree'. -/
def actsetFreeUptoCard : Claim7 := { stood := { row := actsetFreeUptoRow, standIns := [], harness := (true, "fb2e118e6b62ef09e1fc2627d244a7d781485f52585e91d64384c592a5cc4f94"), looks := false }, kinds := [], alts := [], laidByText := true, laidKinds := [.data, .pinned], laidTests := true, laidLooks := .later }
def ActsetFreeUptoCardSaid : Prop := Claim7.holds Tryd.pinned (.plain (OpenSpec.upto actsetFreeSpec)) actsetFreeUptoCard
end Rows
end Go.Proofs.YtheklpaoigbdnaaDoor
