/-
  DERIVED. GIVEN WITH THE SEED: THE CARDS: each row of YtoejpijobbcooaaDoorRows.lean that lists a variable, with what it lists TIED to the program's text (the seventh form; the later family's looks); each row that meets fmt, with fmt's text TOLD by the authors' own Lean function (tested against real Go, not proved from fmt's source: count such statements apart). THE CARD IS WHAT COUNTS. Prove the row's statement (the work); the ties are given (YtoejpijobbcooaaDoorTie.lean); close each card by the builder's one call (the guide's Derived/Test/ToyasCard.lean, 'card_holds'). Laid BY PROGRAM, IN A SANDBOX (cutbox-door.mjs). By AI agents, Wed Nov 11 2026. No macro, syntax, notation, axiom, sorry.
-/
import Derived.Test.YtoejpijobbcooaaDoorRows
import GoSem.ClaimSeven
namespace Go.Proofs.YtoejpijobbcooaaDoor
namespace Rows

/-- THE TIED CARD OF 'gunwalelaw12.ActionBack'. -/
def actionBackCard : Claim7 := { stood := { row := actionBackRow, standIns := [], harness := (true, "673e6f60a8bbb0d87c04e0cfb2e63ddd01f9d8c4fb486bb8873308986c7d5353"), looks := false }, kinds := [], alts := [], laidByText := true, laidKinds := [.data, .pinned], laidTests := true, laidLooks := .later }
def ActionBackCardSaid : Prop := Claim7.holds Tryd.pinned (.plain (OpenSpec.ofChange actionBackSpec)) actionBackCard

/-- THE TIED CARD OF 'gunwalelaw12.ActionCopies'. -/
def actionCopiesCard : Claim7 := { stood := { row := actionCopiesRow, standIns := [], harness := (true, "673e6f60a8bbb0d87c04e0cfb2e63ddd01f9d8c4fb486bb8873308986c7d5353"), looks := false }, kinds := [], alts := [], laidByText := true, laidKinds := [.data, .pinned], laidTests := true, laidLooks := .later }
def ActionCopiesCardSaid : Prop := Claim7.holds Tryd.pinned (.plain (OpenSpec.ofChange actionCopiesSpec)) actionCopiesCard

/-- THE TIED CARD OF 'gunwalelaw10.MatchBack'. -/
def matchBackCard : Claim7 := { stood := { row := matchBackRow, standIns := [], harness := (true, "673e6f60a8bbb0d87c04e0cfb2e63ddd01f9d8c4fb486bb8873308986c7d5353"), looks := false }, kinds := [], alts := [], laidByText := true, laidKinds := [.data, .pinned], laidTests := true, laidLooks := .later }
def MatchBackCardSaid : Prop := Claim7.holds Tryd.pinned (.plain (OpenSpec.ofChange matchBackSpec)) matchBackCard

/-- THE TIED CARD OF 'gunwalelaw10.MatchFront'. -/
def matchFrontCard : Claim7 := { stood := { row := matchFrontRow, standIns := [], harness := (true, "673e6f60a8bbb0d87c04e0cfb2e63ddd01f9d8c4fb486bb8873308986c7d5353"), looks := false }, kinds := [], alts := [], laidByText := true, laidKinds := [.data, .pinned], laidTests := true, laidLooks := .later }
def MatchFrontCardSaid : Prop := Claim7.holds Tryd.pinned (.plain (OpenSpec.ofChange matchFrontSpec)) matchFrontCard

/-- THE SECOND FORM's CARD OF 'gunwalelaw12.ActionBack'. -/
def actionBackUptoCard : Claim7 := { stood := { row := actionBackUptoRow, standIns := [], harness := (true, "673e6f60a8bbb0d87c04e0cfb2e63ddd01f9d8c4fb486bb8873308986c7d5353"), looks := false }, kinds := [], alts := [], laidByText := true, laidKinds := [.data, .pinned], laidTests := true, laidLooks := .later }
def ActionBackUptoCardSaid : Prop := Claim7.holds Tryd.pinned (.plain (OpenSpec.upto actionBackSpec)) actionBackUptoCard

/-- THE SECOND FORM's CARD OF 'gunwalelaw12.ActionCopies'. -/
def actionCopiesUptoCard : Claim7 := { stood := { row := actionCopiesUptoRow, standIns := [], harness := (true, "673e6f60a8bbb0d87c04e0cfb2e63ddd01f9d8c4fb486bb8873308986c7d5353"), looks := false }, kinds := [], alts := [], laidByText := true, laidKinds := [.data, .pinned], laidTests := true, laidLooks := .later }
def ActionCopiesUptoCardSaid : Prop := Claim7.holds Tryd.pinned (.plain (OpenSpec.upto actionCopiesSpec)) actionCopiesUptoCard

/-- THE SECOND FORM's CARD OF 'gunwalelaw10.MatchBack'. -/
def matchBackUptoCard : Claim7 := { stood := { row := matchBackUptoRow, standIns := [], harness := (true, "673e6f60a8bbb0d87c04e0cfb2e63ddd01f9d8c4fb486bb8873308986c7d5353"), looks := false }, kinds := [], alts := [], laidByText := true, laidKinds := [.data, .pinned], laidTests := true, laidLooks := .later }
def MatchBackUptoCardSaid : Prop := Claim7.holds Tryd.pinned (.plain (OpenSpec.upto matchBackSpec)) matchBackUptoCard

/-- THE SECOND FORM's CARD OF 'gunwalelaw10.MatchFront'. -/
def matchFrontUptoCard : Claim7 := { stood := { row := matchFrontUptoRow, standIns := [], harness := (true, "673e6f60a8bbb0d87c04e0cfb2e63ddd01f9d8c4fb486bb8873308986c7d5353"), looks := false }, kinds := [], alts := [], laidByText := true, laidKinds := [.data, .pinned], laidTests := true, laidLooks := .later }
def MatchFrontUptoCardSaid : Prop := Claim7.holds Tryd.pinned (.plain (OpenSpec.upto matchFrontSpec)) matchFrontUptoCard
end Rows
end Go.Proofs.YtoejpijobbcooaaDoor
