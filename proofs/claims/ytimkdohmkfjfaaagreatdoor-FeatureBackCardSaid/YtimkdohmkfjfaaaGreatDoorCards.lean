/-
  DERIVED. GIVEN WITH THE SEED: THE CARDS: each row of YtimkdohmkfjfaaaGreatDoorRows.lean that lists a variable, with what it lists TIED to the program's text (the seventh form; the later family's looks); each row that meets fmt, with fmt's text TOLD by the authors' own Lean function (tested against real Go, not proved from fmt's source: count such statements apart). THE CARD IS WHAT COUNTS. Prove the row's statement (the work); the ties are given (YtimkdohmkfjfaaaGreatDoorTie.lean); close each card by the builder's one call (the guide's Derived/Test/ToyasCard.lean, 'card_holds'). Laid BY PROGRAM, IN A SANDBOX (cutbox-door.mjs). By AI agents, Wed Nov 11 2026. No macro, syntax, notation, axiom, sorry.
-/
import Derived.Test.YtimkdohmkfjfaaaGreatDoorRows
import GoSem.ClaimSeven
namespace Go.Proofs.YtimkdohmkfjfaaaGreatDoor
namespace Rows

/-- THE TIED CARD OF 'gunwalelaw10.MatchCopies'. -/
def matchCopiesCard : Claim7 := { stood := { row := matchCopiesRow, standIns := [], harness := (true, "cfd99f3f1aefbccf158ba9e11322c48e75ec7254a2be6cbec40ba8034cc42de3"), looks := false }, kinds := [], alts := [], laidByText := true, laidKinds := [.data, .pinned], laidTests := true, laidLooks := .later }
def MatchCopiesCardSaid : Prop := Claim7.holds Tryz.pinned (.plain (OpenSpec.ofChange matchCopiesSpec)) matchCopiesCard

/-- THE TIED CARD OF 'gunwalelaw16.BucketBack'. -/
def bucketBackCard : Claim7 := { stood := { row := bucketBackRow, standIns := [], harness := (true, "cfd99f3f1aefbccf158ba9e11322c48e75ec7254a2be6cbec40ba8034cc42de3"), looks := false }, kinds := [], alts := [], laidByText := true, laidKinds := [.data, .pinned], laidTests := true, laidLooks := .later }
def BucketBackCardSaid : Prop := Claim7.holds Tryz.pinned (.plain (OpenSpec.ofChange bucketBackSpec)) bucketBackCard

/-- THE TIED CARD OF 'gunwalelaw15.InstrBack'. -/
def instrBackCard : Claim7 := { stood := { row := instrBackRow, standIns := [], harness := (true, "cfd99f3f1aefbccf158ba9e11322c48e75ec7254a2be6cbec40ba8034cc42de3"), looks := false }, kinds := [], alts := [], laidByText := true, laidKinds := [.data, .pinned], laidTests := true, laidLooks := .later }
def InstrBackCardSaid : Prop := Claim7.holds Tryz.pinned (.plain (OpenSpec.ofChange instrBackSpec)) instrBackCard

/-- THE TIED CARD OF 'gunwalelaw20.FeatureBack'. -/
def featureBackCard : Claim7 := { stood := { row := featureBackRow, standIns := [], harness := (true, "cfd99f3f1aefbccf158ba9e11322c48e75ec7254a2be6cbec40ba8034cc42de3"), looks := false }, kinds := [], alts := [], laidByText := true, laidKinds := [.data, .pinned], laidTests := true, laidLooks := .later }
def FeatureBackCardSaid : Prop := Claim7.holds Tryz.pinned (.plain (OpenSpec.ofChange featureBackSpec)) featureBackCard

/-- THE SECOND FORM's CARD OF 'gunwalelaw10.MatchCopies'. -/
def matchCopiesUptoCard : Claim7 := { stood := { row := matchCopiesUptoRow, standIns := [], harness := (true, "cfd99f3f1aefbccf158ba9e11322c48e75ec7254a2be6cbec40ba8034cc42de3"), looks := false }, kinds := [], alts := [], laidByText := true, laidKinds := [.data, .pinned], laidTests := true, laidLooks := .later }
def MatchCopiesUptoCardSaid : Prop := Claim7.holds Tryz.pinned (.plain (OpenSpec.upto matchCopiesSpec)) matchCopiesUptoCard

/-- THE SECOND FORM's CARD OF 'gunwalelaw16.BucketBack'. -/
def bucketBackUptoCard : Claim7 := { stood := { row := bucketBackUptoRow, standIns := [], harness := (true, "cfd99f3f1aefbccf158ba9e11322c48e75ec7254a2be6cbec40ba8034cc42de3"), looks := false }, kinds := [], alts := [], laidByText := true, laidKinds := [.data, .pinned], laidTests := true, laidLooks := .later }
def BucketBackUptoCardSaid : Prop := Claim7.holds Tryz.pinned (.plain (OpenSpec.upto bucketBackSpec)) bucketBackUptoCard

/-- THE SECOND FORM's CARD OF 'gunwalelaw15.InstrBack'. -/
def instrBackUptoCard : Claim7 := { stood := { row := instrBackUptoRow, standIns := [], harness := (true, "cfd99f3f1aefbccf158ba9e11322c48e75ec7254a2be6cbec40ba8034cc42de3"), looks := false }, kinds := [], alts := [], laidByText := true, laidKinds := [.data, .pinned], laidTests := true, laidLooks := .later }
def InstrBackUptoCardSaid : Prop := Claim7.holds Tryz.pinned (.plain (OpenSpec.upto instrBackSpec)) instrBackUptoCard

/-- THE SECOND FORM's CARD OF 'gunwalelaw20.FeatureBack'. -/
def featureBackUptoCard : Claim7 := { stood := { row := featureBackUptoRow, standIns := [], harness := (true, "cfd99f3f1aefbccf158ba9e11322c48e75ec7254a2be6cbec40ba8034cc42de3"), looks := false }, kinds := [], alts := [], laidByText := true, laidKinds := [.data, .pinned], laidTests := true, laidLooks := .later }
def FeatureBackUptoCardSaid : Prop := Claim7.holds Tryz.pinned (.plain (OpenSpec.upto featureBackSpec)) featureBackUptoCard
end Rows
end Go.Proofs.YtimkdohmkfjfaaaGreatDoor
