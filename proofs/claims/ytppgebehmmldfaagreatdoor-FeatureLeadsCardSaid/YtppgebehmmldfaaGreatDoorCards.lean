/-
  DERIVED. GIVEN WITH THE SEED: THE CARDS: each row of YtppgebehmmldfaaGreatDoorRows.lean that lists a variable, with what it lists TIED to the program's text (the seventh form; the later family's looks); each row that meets fmt, with fmt's text TOLD by the authors' own Lean function (tested against real Go, not proved from fmt's source: count such statements apart). THE CARD IS WHAT COUNTS. Prove the row's statement (the work); the ties are given (YtppgebehmmldfaaGreatDoorTie.lean); close each card by the builder's one call (the guide's Derived/Test/ToyasCard.lean, 'card_holds'). Laid BY PROGRAM, IN A SANDBOX (cutbox-door.mjs). By AI agents, Wed Nov 11 2026. No macro, syntax, notation, axiom, sorry.
-/
import Derived.Test.YtppgebehmmldfaaGreatDoorRows
import GoSem.ClaimSeven
namespace Go.Proofs.YtppgebehmmldfaaGreatDoor
namespace Rows

/-- THE TIED CARD OF 'gunwalelaw20.FeatureDecodes'. -/
def featureDecodesCard : Claim7 := { stood := { row := featureDecodesRow, standIns := [], harness := (true, "231a64e4917f47dac3122393f13720730f2e9357bbcc5ecc111ea4ecc5c522aa"), looks := false }, kinds := [], alts := [], laidByText := true, laidKinds := [.data, .pinned], laidTests := true, laidLooks := .later }
def FeatureDecodesCardSaid : Prop := Claim7.holds Tryz.pinned (.plain (OpenSpec.ofChange featureDecodesSpec)) featureDecodesCard

/-- THE TIED CARD OF 'gunwalelaw20.FeatureLeads'. -/
def featureLeadsCard : Claim7 := { stood := { row := featureLeadsRow, standIns := [], harness := (true, "231a64e4917f47dac3122393f13720730f2e9357bbcc5ecc111ea4ecc5c522aa"), looks := false }, kinds := [], alts := [], laidByText := true, laidKinds := [.data, .pinned], laidTests := true, laidLooks := .later }
def FeatureLeadsCardSaid : Prop := Claim7.holds Tryz.pinned (.plain (OpenSpec.ofChange featureLeadsSpec)) featureLeadsCard

/-- THE TIED CARD OF 'gunwalelaw20.FeatureEncodes'. -/
def featureEncodesCard : Claim7 := { stood := { row := featureEncodesRow, standIns := [], harness := (true, "231a64e4917f47dac3122393f13720730f2e9357bbcc5ecc111ea4ecc5c522aa"), looks := false }, kinds := [], alts := [], laidByText := true, laidKinds := [.data, .pinned], laidTests := true, laidLooks := .later }
def FeatureEncodesCardSaid : Prop := Claim7.holds Tryz.pinned (.plain (OpenSpec.ofChange featureEncodesSpec)) featureEncodesCard

/-- THE TIED CARD OF 'gunwalelaw20.FeatureBack'. -/
def featureBackCard : Claim7 := { stood := { row := featureBackRow, standIns := [], harness := (true, "231a64e4917f47dac3122393f13720730f2e9357bbcc5ecc111ea4ecc5c522aa"), looks := false }, kinds := [], alts := [], laidByText := true, laidKinds := [.data, .pinned], laidTests := true, laidLooks := .later }
def FeatureBackCardSaid : Prop := Claim7.holds Tryz.pinned (.plain (OpenSpec.ofChange featureBackSpec)) featureBackCard

/-- THE SECOND FORM's CARD OF 'gunwalelaw20.FeatureDecodes'. -/
def featureDecodesUptoCard : Claim7 := { stood := { row := featureDecodesUptoRow, standIns := [], harness := (true, "231a64e4917f47dac3122393f13720730f2e9357bbcc5ecc111ea4ecc5c522aa"), looks := false }, kinds := [], alts := [], laidByText := true, laidKinds := [.data, .pinned], laidTests := true, laidLooks := .later }
def FeatureDecodesUptoCardSaid : Prop := Claim7.holds Tryz.pinned (.plain (OpenSpec.upto featureDecodesSpec)) featureDecodesUptoCard

/-- THE SECOND FORM's CARD OF 'gunwalelaw20.FeatureLeads'. -/
def featureLeadsUptoCard : Claim7 := { stood := { row := featureLeadsUptoRow, standIns := [], harness := (true, "231a64e4917f47dac3122393f13720730f2e9357bbcc5ecc111ea4ecc5c522aa"), looks := false }, kinds := [], alts := [], laidByText := true, laidKinds := [.data, .pinned], laidTests := true, laidLooks := .later }
def FeatureLeadsUptoCardSaid : Prop := Claim7.holds Tryz.pinned (.plain (OpenSpec.upto featureLeadsSpec)) featureLeadsUptoCard

/-- THE SECOND FORM's CARD OF 'gunwalelaw20.FeatureEncodes'. -/
def featureEncodesUptoCard : Claim7 := { stood := { row := featureEncodesUptoRow, standIns := [], harness := (true, "231a64e4917f47dac3122393f13720730f2e9357bbcc5ecc111ea4ecc5c522aa"), looks := false }, kinds := [], alts := [], laidByText := true, laidKinds := [.data, .pinned], laidTests := true, laidLooks := .later }
def FeatureEncodesUptoCardSaid : Prop := Claim7.holds Tryz.pinned (.plain (OpenSpec.upto featureEncodesSpec)) featureEncodesUptoCard

/-- THE SECOND FORM's CARD OF 'gunwalelaw20.FeatureBack'. -/
def featureBackUptoCard : Claim7 := { stood := { row := featureBackUptoRow, standIns := [], harness := (true, "231a64e4917f47dac3122393f13720730f2e9357bbcc5ecc111ea4ecc5c522aa"), looks := false }, kinds := [], alts := [], laidByText := true, laidKinds := [.data, .pinned], laidTests := true, laidLooks := .later }
def FeatureBackUptoCardSaid : Prop := Claim7.holds Tryz.pinned (.plain (OpenSpec.upto featureBackSpec)) featureBackUptoCard
end Rows
end Go.Proofs.YtppgebehmmldfaaGreatDoor
