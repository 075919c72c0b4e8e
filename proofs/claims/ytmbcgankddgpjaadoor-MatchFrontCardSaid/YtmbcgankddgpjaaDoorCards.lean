/-
  DERIVED. GIVEN WITH THE SEED: THE CARDS: each row of YtmbcgankddgpjaaDoorRows.lean that lists a variable, with what it lists TIED to the program's text (the seventh form; the later family's looks); each row that meets fmt, with fmt's text TOLD by the authors' own Lean function (tested against real Go, not proved from fmt's source: count such statements apart). THE CARD IS WHAT COUNTS. Prove the row's statement (the work); the ties are given (YtmbcgankddgpjaaDoorTie.lean); close each card by the builder's one call (the guide's Derived/Test/ToyasCard.lean, 'card_holds'). Laid BY PROGRAM, IN A SANDBOX (cutbox-door.mjs). By AI agents, Wed Nov 11 2026. No macro, syntax, notation, axiom, sorry.
-/
import Derived.Test.YtmbcgankddgpjaaDoorRows
import GoSem.ClaimSeven
namespace Go.Proofs.YtmbcgankddgpjaaDoor
namespace Rows

/-- THE TIED CARD OF 'gunwalelaw14.ActsetTwice'. -/
def actsetTwiceCard : Claim7 := { stood := { row := actsetTwiceRow, standIns := [], harness := (true, "d9bbf3308209595788bddc45c3d144a78ce5a11f3fe821e01bcb61e1a6883e2d"), looks := false }, kinds := [], alts := [], laidByText := true, laidKinds := [.data, .pinned], laidTests := true, laidLooks := .later }
def ActsetTwiceCardSaid : Prop := Claim7.holds Tryd.pinned (.plain (OpenSpec.ofChange actsetTwiceSpec)) actsetTwiceCard

/-- THE TIED CARD OF 'gunwalelaw14.ActsetFree'. -/
def actsetFreeCard : Claim7 := { stood := { row := actsetFreeRow, standIns := [], harness := (true, "d9bbf3308209595788bddc45c3d144a78ce5a11f3fe821e01bcb61e1a6883e2d"), looks := false }, kinds := [], alts := [], laidByText := true, laidKinds := [.data, .pinned], laidTests := true, laidLooks := .later }
def ActsetFreeCardSaid : Prop := Claim7.holds Tryd.pinned (.plain (OpenSpec.ofChange actsetFreeSpec)) actsetFreeCard

/-- THE TIED CARD OF 'gunwalelaw10.MatchBack'. -/
def matchBackCard : Claim7 := { stood := { row := matchBackRow, standIns := [], harness := (true, "d9bbf3308209595788bddc45c3d144a78ce5a11f3fe821e01bcb61e1a6883e2d"), looks := false }, kinds := [], alts := [], laidByText := true, laidKinds := [.data, .pinned], laidTests := true, laidLooks := .later }
def MatchBackCardSaid : Prop := Claim7.holds Tryd.pinned (.plain (OpenSpec.ofChange matchBackSpec)) matchBackCard

/-- THE TIED CARD OF 'gunwalelaw10.MatchFront'. -/
def matchFrontCard : Claim7 := { stood := { row := matchFrontRow, standIns := [], harness := (true, "d9bbf3308209595788bddc45c3d144a78ce5a11f3fe821e01bcb61e1a6883e2d"), looks := false }, kinds := [], alts := [], laidByText := true, laidKinds := [.data, .pinned], laidTests := true, laidLooks := .later }
def MatchFrontCardSaid : Prop := Claim7.holds Tryd.pinned (.plain (OpenSpec.ofChange matchFrontSpec)) matchFrontCard

/-- THE SECOND FORM's CARD OF 'gunwalelaw14.ActsetTwice'. -/
def actsetTwiceUptoCard : Claim7 := { stood := { row := actsetTwiceUptoRow, standIns := [], harness := (true, "d9bbf3308209595788bddc45c3d144a78ce5a11f3fe821e01bcb61e1a6883e2d"), looks := false }, kinds := [], alts := [], laidByText := true, laidKinds := [.data, .pinned], laidTests := true, laidLooks := .later }
def ActsetTwiceUptoCardSaid : Prop := Claim7.holds Tryd.pinned (.plain (OpenSpec.upto actsetTwiceSpec)) actsetTwiceUptoCard

/-- THE SECOND FORM's CARD OF 'gunwalelaw14.ActsetFree'. -/
def actsetFreeUptoCard : Claim7 := { stood := { row := actsetFreeUptoRow, standIns := [], harness := (true, "d9bbf3308209595788bddc45c3d144a78ce5a11f3fe821e01bcb61e1a6883e2d"), looks := false }, kinds := [], alts := [], laidByText := true, laidKinds := [.data, .pinned], laidTests := true, laidLooks := .later }
def ActsetFreeUptoCardSaid : Prop := Claim7.holds Tryd.pinned (.plain (OpenSpec.upto actsetFreeSpec)) actsetFreeUptoCard

/-- THE SECOND FORM's CARD OF 'gunwalelaw10.MatchBack'. -/
def matchBackUptoCard : Claim7 := { stood := { row := matchBackUptoRow, standIns := [], harness := (true, "d9bbf3308209595788bddc45c3d144a78ce5a11f3fe821e01bcb61e1a6883e2d"), looks := false }, kinds := [], alts := [], laidByText := true, laidKinds := [.data, .pinned], laidTests := true, laidLooks := .later }
def MatchBackUptoCardSaid : Prop := Claim7.holds Tryd.pinned (.plain (OpenSpec.upto matchBackSpec)) matchBackUptoCard

/-- THE SECOND FORM's CARD OF 'gunwalelaw10.MatchFront'. -/
def matchFrontUptoCard : Claim7 := { stood := { row := matchFrontUptoRow, standIns := [], harness := (true, "d9bbf3308209595788bddc45c3d144a78ce5a11f3fe821e01bcb61e1a6883e2d"), looks := false }, kinds := [], alts := [], laidByText := true, laidKinds := [.data, .pinned], laidTests := true, laidLooks := .later }
def MatchFrontUptoCardSaid : Prop := Claim7.holds Tryd.pinned (.plain (OpenSpec.upto matchFrontSpec)) matchFrontUptoCard
end Rows
end Go.Proofs.YtmbcgankddgpjaaDoor
