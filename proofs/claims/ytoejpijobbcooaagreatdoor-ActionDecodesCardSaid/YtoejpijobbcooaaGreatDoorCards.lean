/-
  DERIVED. GIVEN WITH THE SEED: THE CARDS: each row of YtoejpijobbcooaaGreatDoorRows.lean that lists a variable, with what it lists TIED to the program's text (the seventh form; the later family's looks); each row that meets fmt, with fmt's text TOLD by the authors' own Lean function (tested against real Go, not proved from fmt's source: count such statements apart). THE CARD IS WHAT COUNTS. Prove the row's statement (the work); the ties are given (YtoejpijobbcooaaGreatDoorTie.lean); close each card by the builder's one call (the guide's Derived/Test/ToyasCard.lean, 'card_holds'). Laid BY PROGRAM, IN A SANDBOX (cutbox-door.mjs). By AI agents, Wed Nov 11 2026. No macro, syntax, notation, axiom, sorry.
-/
import Derived.Test.YtoejpijobbcooaaGreatDoorRows
import GoSem.ClaimSeven
namespace Go.Proofs.YtoejpijobbcooaaGreatDoor
namespace Rows

/-- THE TIED CARD OF 'gunwalelaw12.ActionEncodes'. -/
def actionEncodesCard : Claim7 := { stood := { row := actionEncodesRow, standIns := [], harness := (true, "b22aeebc3d4101b7eb71ba73c0d85c09c55eda1ffeb05de47d0bd79638693305"), looks := false }, kinds := [], alts := [], laidByText := true, laidKinds := [.data, .pinned], laidTests := true, laidLooks := .later }
def ActionEncodesCardSaid : Prop := Claim7.holds Tryz.pinned (.plain (OpenSpec.ofChange actionEncodesSpec)) actionEncodesCard

/-- THE TIED CARD OF 'gunwalelaw12.ActionDecodes'. -/
def actionDecodesCard : Claim7 := { stood := { row := actionDecodesRow, standIns := [], harness := (true, "b22aeebc3d4101b7eb71ba73c0d85c09c55eda1ffeb05de47d0bd79638693305"), looks := false }, kinds := [], alts := [], laidByText := true, laidKinds := [.data, .pinned], laidTests := true, laidLooks := .later }
def ActionDecodesCardSaid : Prop := Claim7.holds Tryz.pinned (.plain (OpenSpec.ofChange actionDecodesSpec)) actionDecodesCard

/-- THE TIED CARD OF 'gunwalelaw10.MatchEncodes'. -/
def matchEncodesCard : Claim7 := { stood := { row := matchEncodesRow, standIns := [], harness := (true, "b22aeebc3d4101b7eb71ba73c0d85c09c55eda1ffeb05de47d0bd79638693305"), looks := false }, kinds := [], alts := [], laidByText := true, laidKinds := [.data, .pinned], laidTests := true, laidLooks := .later }
def MatchEncodesCardSaid : Prop := Claim7.holds Tryz.pinned (.plain (OpenSpec.ofChange matchEncodesSpec)) matchEncodesCard

/-- THE TIED CARD OF 'gunwalelaw10.MatchDecodes'. -/
def matchDecodesCard : Claim7 := { stood := { row := matchDecodesRow, standIns := [], harness := (true, "b22aeebc3d4101b7eb71ba73c0d85c09c55eda1ffeb05de47d0bd79638693305"), looks := false }, kinds := [], alts := [], laidByText := true, laidKinds := [.data, .pinned], laidTests := true, laidLooks := .later }
def MatchDecodesCardSaid : Prop := Claim7.holds Tryz.pinned (.plain (OpenSpec.ofChange matchDecodesSpec)) matchDecodesCard

/-- THE TIED CARD OF 'gunwalelaw10.MatchCopies'. -/
def matchCopiesCard : Claim7 := { stood := { row := matchCopiesRow, standIns := [], harness := (true, "b22aeebc3d4101b7eb71ba73c0d85c09c55eda1ffeb05de47d0bd79638693305"), looks := false }, kinds := [], alts := [], laidByText := true, laidKinds := [.data, .pinned], laidTests := true, laidLooks := .later }
def MatchCopiesCardSaid : Prop := Claim7.holds Tryz.pinned (.plain (OpenSpec.ofChange matchCopiesSpec)) matchCopiesCard

/-- THE SECOND FORM's CARD OF 'gunwalelaw12.ActionEncodes'. -/
def actionEncodesUptoCard : Claim7 := { stood := { row := actionEncodesUptoRow, standIns := [], harness := (true, "b22aeebc3d4101b7eb71ba73c0d85c09c55eda1ffeb05de47d0bd79638693305"), looks := false }, kinds := [], alts := [], laidByText := true, laidKinds := [.data, .pinned], laidTests := true, laidLooks := .later }
def ActionEncodesUptoCardSaid : Prop := Claim7.holds Tryz.pinned (.plain (OpenSpec.upto actionEncodesSpec)) actionEncodesUptoCard

/-- THE SECOND FORM's CARD OF 'gunwalelaw12.ActionDecodes'. -/
def actionDecodesUptoCard : Claim7 := { stood := { row := actionDecodesUptoRow, standIns := [], harness := (true, "b22aeebc3d4101b7eb71ba73c0d85c09c55eda1ffeb05de47d0bd79638693305"), looks := false }, kinds := [], alts := [], laidByText := true, laidKinds := [.data, .pinned], laidTests := true, laidLooks := .later }
def ActionDecodesUptoCardSaid : Prop := Claim7.holds Tryz.pinned (.plain (OpenSpec.upto actionDecodesSpec)) actionDecodesUptoCard

/-- THE SECOND FORM's CARD OF 'gunwalelaw10.MatchEncodes'. -/
def matchEncodesUptoCard : Claim7 := { stood := { row := matchEncodesUptoRow, standIns := [], harness := (true, "b22aeebc3d4101b7eb71ba73c0d85c09c55eda1ffeb05de47d0bd79638693305"), looks := false }, kinds := [], alts := [], laidByText := true, laidKinds := [.data, .pinned], laidTests := true, laidLooks := .later }
def MatchEncodesUptoCardSaid : Prop := Claim7.holds Tryz.pinned (.plain (OpenSpec.upto matchEncodesSpec)) matchEncodesUptoCard

/-- THE SECOND FORM's CARD OF 'gunwalelaw10.MatchDecodes'. -/
def matchDecodesUptoCard : Claim7 := { stood := { row := matchDecodesUptoRow, standIns := [], harness := (true, "b22aeebc3d4101b7eb71ba73c0d85c09c55eda1ffeb05de47d0bd79638693305"), looks := false }, kinds := [], alts := [], laidByText := true, laidKinds := [.data, .pinned], laidTests := true, laidLooks := .later }
def MatchDecodesUptoCardSaid : Prop := Claim7.holds Tryz.pinned (.plain (OpenSpec.upto matchDecodesSpec)) matchDecodesUptoCard

/-- THE SECOND FORM's CARD OF 'gunwalelaw10.MatchCopies'. -/
def matchCopiesUptoCard : Claim7 := { stood := { row := matchCopiesUptoRow, standIns := [], harness := (true, "b22aeebc3d4101b7eb71ba73c0d85c09c55eda1ffeb05de47d0bd79638693305"), looks := false }, kinds := [], alts := [], laidByText := true, laidKinds := [.data, .pinned], laidTests := true, laidLooks := .later }
def MatchCopiesUptoCardSaid : Prop := Claim7.holds Tryz.pinned (.plain (OpenSpec.upto matchCopiesSpec)) matchCopiesUptoCard
end Rows
end Go.Proofs.YtoejpijobbcooaaGreatDoor
