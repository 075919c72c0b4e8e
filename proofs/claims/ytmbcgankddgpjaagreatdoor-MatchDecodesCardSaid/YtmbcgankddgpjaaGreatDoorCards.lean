/-
  DERIVED. GIVEN WITH THE SEED: THE CARDS: each row of YtmbcgankddgpjaaGreatDoorRows.lean that lists a variable, with what it lists TIED to the program's text (the seventh form; the later family's looks); each row that meets fmt, with fmt's text TOLD by the authors' own Lean function (tested against real Go, not proved from fmt's source: count such statements apart). THE CARD IS WHAT COUNTS. Prove the row's statement (the work); the ties are given (YtmbcgankddgpjaaGreatDoorTie.lean); close each card by the builder's one call (the guide's Derived/Test/ToyasCard.lean, 'card_holds'). Laid BY PROGRAM, IN A SANDBOX (cutbox-door.mjs). By AI agents, Wed Nov 11 2026. No macro, syntax, notation, axiom, sorry.
-/
import Derived.Test.YtmbcgankddgpjaaGreatDoorRows
import GoSem.ClaimSeven
namespace Go.Proofs.YtmbcgankddgpjaaGreatDoor
namespace Rows

/-- THE TIED CARD OF 'gunwalelaw14.ActsetWrites'. -/
def actsetWritesCard : Claim7 := { stood := { row := actsetWritesRow, standIns := [], harness := (true, "9f5634d0b1303afbc77ac5c267b9d07b8db913c80c5ecfbb3ef3c69c21ce9cd7"), looks := false }, kinds := [], alts := [], laidByText := true, laidKinds := [.data, .pinned], laidTests := true, laidLooks := .later }
def ActsetWritesCardSaid : Prop := Claim7.holds Tryz.pinned (.plain (OpenSpec.ofChange actsetWritesSpec)) actsetWritesCard

/-- THE TIED CARD OF 'gunwalelaw10.MatchEncodes'. -/
def matchEncodesCard : Claim7 := { stood := { row := matchEncodesRow, standIns := [], harness := (true, "9f5634d0b1303afbc77ac5c267b9d07b8db913c80c5ecfbb3ef3c69c21ce9cd7"), looks := false }, kinds := [], alts := [], laidByText := true, laidKinds := [.data, .pinned], laidTests := true, laidLooks := .later }
def MatchEncodesCardSaid : Prop := Claim7.holds Tryz.pinned (.plain (OpenSpec.ofChange matchEncodesSpec)) matchEncodesCard

/-- THE TIED CARD OF 'gunwalelaw10.MatchDecodes'. -/
def matchDecodesCard : Claim7 := { stood := { row := matchDecodesRow, standIns := [], harness := (true, "9f5634d0b1303afbc77ac5c267b9d07b8db913c80c5ecfbb3ef3c69c21ce9cd7"), looks := false }, kinds := [], alts := [], laidByText := true, laidKinds := [.data, .pinned], laidTests := true, laidLooks := .later }
def MatchDecodesCardSaid : Prop := Claim7.holds Tryz.pinned (.plain (OpenSpec.ofChange matchDecodesSpec)) matchDecodesCard

/-- THE TIED CARD OF 'gunwalelaw10.MatchCopies'. -/
def matchCopiesCard : Claim7 := { stood := { row := matchCopiesRow, standIns := [], harness := (true, "9f5634d0b1303afbc77ac5c267b9d07b8db913c80c5ecfbb3ef3c69c21ce9cd7"), looks := false }, kinds := [], alts := [], laidByText := true, laidKinds := [.data, .pinned], laidTests := true, laidLooks := .later }
def MatchCopiesCardSaid : Prop := Claim7.holds Tryz.pinned (.plain (OpenSpec.ofChange matchCopiesSpec)) matchCopiesCard

/-- THE TIED CARD OF 'gunwalelaw13.ActsEncodes'. -/
def actsEncodesCard : Claim7 := { stood := { row := actsEncodesRow, standIns := [], harness := (true, "9f5634d0b1303afbc77ac5c267b9d07b8db913c80c5ecfbb3ef3c69c21ce9cd7"), looks := false }, kinds := [], alts := [], laidByText := true, laidKinds := [.data, .pinned], laidTests := true, laidLooks := .later }
def ActsEncodesCardSaid : Prop := Claim7.holds Tryz.pinned (.plain (OpenSpec.ofChange actsEncodesSpec)) actsEncodesCard

/-- THE TIED CARD OF 'gunwalelaw13.ActsPorts'. -/
def actsPortsCard : Claim7 := { stood := { row := actsPortsRow, standIns := [], harness := (true, "9f5634d0b1303afbc77ac5c267b9d07b8db913c80c5ecfbb3ef3c69c21ce9cd7"), looks := false }, kinds := [], alts := [], laidByText := true, laidKinds := [.data, .pinned], laidTests := true, laidLooks := .later }
def ActsPortsCardSaid : Prop := Claim7.holds Tryz.pinned (.plain (OpenSpec.ofChange actsPortsSpec)) actsPortsCard

/-- THE TIED CARD OF 'gunwalelaw13.ActsDecodes'. -/
def actsDecodesCard : Claim7 := { stood := { row := actsDecodesRow, standIns := [], harness := (true, "9f5634d0b1303afbc77ac5c267b9d07b8db913c80c5ecfbb3ef3c69c21ce9cd7"), looks := false }, kinds := [], alts := [], laidByText := true, laidKinds := [.data, .pinned], laidTests := true, laidLooks := .later }
def ActsDecodesCardSaid : Prop := Claim7.holds Tryz.pinned (.plain (OpenSpec.ofChange actsDecodesSpec)) actsDecodesCard

/-- THE TIED CARD OF 'gunwalelaw13.ActsBack'. -/
def actsBackCard : Claim7 := { stood := { row := actsBackRow, standIns := [], harness := (true, "9f5634d0b1303afbc77ac5c267b9d07b8db913c80c5ecfbb3ef3c69c21ce9cd7"), looks := false }, kinds := [], alts := [], laidByText := true, laidKinds := [.data, .pinned], laidTests := true, laidLooks := .later }
def ActsBackCardSaid : Prop := Claim7.holds Tryz.pinned (.plain (OpenSpec.ofChange actsBackSpec)) actsBackCard

/-- THE SECOND FORM's CARD OF 'gunwalelaw14.ActsetWrites'. -/
def actsetWritesUptoCard : Claim7 := { stood := { row := actsetWritesUptoRow, standIns := [], harness := (true, "9f5634d0b1303afbc77ac5c267b9d07b8db913c80c5ecfbb3ef3c69c21ce9cd7"), looks := false }, kinds := [], alts := [], laidByText := true, laidKinds := [.data, .pinned], laidTests := true, laidLooks := .later }
def ActsetWritesUptoCardSaid : Prop := Claim7.holds Tryz.pinned (.plain (OpenSpec.upto actsetWritesSpec)) actsetWritesUptoCard

/-- THE SECOND FORM's CARD OF 'gunwalelaw10.MatchEncodes'. -/
def matchEncodesUptoCard : Claim7 := { stood := { row := matchEncodesUptoRow, standIns := [], harness := (true, "9f5634d0b1303afbc77ac5c267b9d07b8db913c80c5ecfbb3ef3c69c21ce9cd7"), looks := false }, kinds := [], alts := [], laidByText := true, laidKinds := [.data, .pinned], laidTests := true, laidLooks := .later }
def MatchEncodesUptoCardSaid : Prop := Claim7.holds Tryz.pinned (.plain (OpenSpec.upto matchEncodesSpec)) matchEncodesUptoCard

/-- THE SECOND FORM's CARD OF 'gunwalelaw10.MatchDecodes'. -/
def matchDecodesUptoCard : Claim7 := { stood := { row := matchDecodesUptoRow, standIns := [], harness := (true, "9f5634d0b1303afbc77ac5c267b9d07b8db913c80c5ecfbb3ef3c69c21ce9cd7"), looks := false }, kinds := [], alts := [], laidByText := true, laidKinds := [.data, .pinned], laidTests := true, laidLooks := .later }
def MatchDecodesUptoCardSaid : Prop := Claim7.holds Tryz.pinned (.plain (OpenSpec.upto matchDecodesSpec)) matchDecodesUptoCard

/-- THE SECOND FORM's CARD OF 'gunwalelaw10.MatchCopies'. -/
def matchCopiesUptoCard : Claim7 := { stood := { row := matchCopiesUptoRow, standIns := [], harness := (true, "9f5634d0b1303afbc77ac5c267b9d07b8db913c80c5ecfbb3ef3c69c21ce9cd7"), looks := false }, kinds := [], alts := [], laidByText := true, laidKinds := [.data, .pinned], laidTests := true, laidLooks := .later }
def MatchCopiesUptoCardSaid : Prop := Claim7.holds Tryz.pinned (.plain (OpenSpec.upto matchCopiesSpec)) matchCopiesUptoCard

/-- THE SECOND FORM's CARD OF 'gunwalelaw13.ActsEncodes'. -/
def actsEncodesUptoCard : Claim7 := { stood := { row := actsEncodesUptoRow, standIns := [], harness := (true, "9f5634d0b1303afbc77ac5c267b9d07b8db913c80c5ecfbb3ef3c69c21ce9cd7"), looks := false }, kinds := [], alts := [], laidByText := true, laidKinds := [.data, .pinned], laidTests := true, laidLooks := .later }
def ActsEncodesUptoCardSaid : Prop := Claim7.holds Tryz.pinned (.plain (OpenSpec.upto actsEncodesSpec)) actsEncodesUptoCard

/-- THE SECOND FORM's CARD OF 'gunwalelaw13.ActsPorts'. -/
def actsPortsUptoCard : Claim7 := { stood := { row := actsPortsUptoRow, standIns := [], harness := (true, "9f5634d0b1303afbc77ac5c267b9d07b8db913c80c5ecfbb3ef3c69c21ce9cd7"), looks := false }, kinds := [], alts := [], laidByText := true, laidKinds := [.data, .pinned], laidTests := true, laidLooks := .later }
def ActsPortsUptoCardSaid : Prop := Claim7.holds Tryz.pinned (.plain (OpenSpec.upto actsPortsSpec)) actsPortsUptoCard

/-- THE SECOND FORM's CARD OF 'gunwalelaw13.ActsDecodes'. -/
def actsDecodesUptoCard : Claim7 := { stood := { row := actsDecodesUptoRow, standIns := [], harness := (true, "9f5634d0b1303afbc77ac5c267b9d07b8db913c80c5ecfbb3ef3c69c21ce9cd7"), looks := false }, kinds := [], alts := [], laidByText := true, laidKinds := [.data, .pinned], laidTests := true, laidLooks := .later }
def ActsDecodesUptoCardSaid : Prop := Claim7.holds Tryz.pinned (.plain (OpenSpec.upto actsDecodesSpec)) actsDecodesUptoCard

/-- THE SECOND FORM's CARD OF 'gunwalelaw13.ActsBack'. -/
def actsBackUptoCard : Claim7 := { stood := { row := actsBackUptoRow, standIns := [], harness := (true, "9f5634d0b1303afbc77ac5c267b9d07b8db913c80c5ecfbb3ef3c69c21ce9cd7"), looks := false }, kinds := [], alts := [], laidByText := true, laidKinds := [.data, .pinned], laidTests := true, laidLooks := .later }
def ActsBackUptoCardSaid : Prop := Claim7.holds Tryz.pinned (.plain (OpenSpec.upto actsBackSpec)) actsBackUptoCard
end Rows
end Go.Proofs.YtmbcgankddgpjaaGreatDoor
