/-
  DERIVED. GIVEN WITH THE SEED: THE CARDS: each row of YtodnkagabgglfaaGreatDoorRows.lean that lists a variable, with what it lists TIED to the program's text (the seventh form; the later family's looks); each row that meets fmt, with fmt's text TOLD by the authors' own Lean function (tested against real Go, not proved from fmt's source: count such statements apart). THE CARD IS WHAT COUNTS. Prove the row's statement (the work); the ties are given (YtodnkagabgglfaaGreatDoorTie.lean); close each card by the builder's one call (the guide's Derived/Test/ToyasCard.lean, 'card_holds'). Laid BY PROGRAM, IN A SANDBOX (cutbox-door.mjs). By AI agents, Wed Nov 11 2026. No macro, syntax, notation, axiom, sorry.
-/
import Derived.Test.YtodnkagabgglfaaGreatDoorRows
import GoSem.ClaimSeven
namespace Go.Proofs.YtodnkagabgglfaaGreatDoor
namespace Rows

/-- THE TIED CARD OF 'gunwalelaw13.ActsEncodes'. -/
def actsEncodesCard : Claim7 := { stood := { row := actsEncodesRow, standIns := [], harness := (true, "da9d48e6a8717a51c74ae53ea68540b92753eeba020ae99aca84d6076a297a24"), looks := false }, kinds := [], alts := [], laidByText := true, laidKinds := [.data, .pinned], laidTests := true, laidLooks := .later }
def ActsEncodesCardSaid : Prop := Claim7.holds Tryz.pinned (.plain (OpenSpec.ofChange actsEncodesSpec)) actsEncodesCard

/-- THE TIED CARD OF 'gunwalelaw13.ActsPorts'. -/
def actsPortsCard : Claim7 := { stood := { row := actsPortsRow, standIns := [], harness := (true, "da9d48e6a8717a51c74ae53ea68540b92753eeba020ae99aca84d6076a297a24"), looks := false }, kinds := [], alts := [], laidByText := true, laidKinds := [.data, .pinned], laidTests := true, laidLooks := .later }
def ActsPortsCardSaid : Prop := Claim7.holds Tryz.pinned (.plain (OpenSpec.ofChange actsPortsSpec)) actsPortsCard

/-- THE TIED CARD OF 'gunwalelaw13.ActsDecodes'. -/
def actsDecodesCard : Claim7 := { stood := { row := actsDecodesRow, standIns := [], harness := (true, "da9d48e6a8717a51c74ae53ea68540b92753eeba020ae99aca84d6076a297a24"), looks := false }, kinds := [], alts := [], laidByText := true, laidKinds := [.data, .pinned], laidTests := true, laidLooks := .later }
def ActsDecodesCardSaid : Prop := Claim7.holds Tryz.pinned (.plain (OpenSpec.ofChange actsDecodesSpec)) actsDecodesCard

/-- THE TIED CARD OF 'gunwalelaw13.ActsBack'. -/
def actsBackCard : Claim7 := { stood := { row := actsBackRow, standIns := [], harness := (true, "da9d48e6a8717a51c74ae53ea68540b92753eeba020ae99aca84d6076a297a24"), looks := false }, kinds := [], alts := [], laidByText := true, laidKinds := [.data, .pinned], laidTests := true, laidLooks := .later }
def ActsBackCardSaid : Prop := Claim7.holds Tryz.pinned (.plain (OpenSpec.ofChange actsBackSpec)) actsBackCard

/-- THE SECOND FORM's CARD OF 'gunwalelaw13.ActsEncodes'. -/
def actsEncodesUptoCard : Claim7 := { stood := { row := actsEncodesUptoRow, standIns := [], harness := (true, "da9d48e6a8717a51c74ae53ea68540b92753eeba020ae99aca84d6076a297a24"), looks := false }, kinds := [], alts := [], laidByText := true, laidKinds := [.data, .pinned], laidTests := true, laidLooks := .later }
def ActsEncodesUptoCardSaid : Prop := Claim7.holds Tryz.pinned (.plain (OpenSpec.upto actsEncodesSpec)) actsEncodesUptoCard

/-- THE SECOND FORM's CARD OF 'gunwalelaw13.ActsPorts'. -/
def actsPortsUptoCard : Claim7 := { stood := { row := actsPortsUptoRow, standIns := [], harness := (true, "da9d48e6a8717a51c74ae53ea68540b92753eeba020ae99aca84d6076a297a24"), looks := false }, kinds := [], alts := [], laidByText := true, laidKinds := [.data, .pinned], laidTests := true, laidLooks := .later }
def ActsPortsUptoCardSaid : Prop := Claim7.holds Tryz.pinned (.plain (OpenSpec.upto actsPortsSpec)) actsPortsUptoCard

/-- THE SECOND FORM's CARD OF 'gunwalelaw13.ActsDecodes'. -/
def actsDecodesUptoCard : Claim7 := { stood := { row := actsDecodesUptoRow, standIns := [], harness := (true, "da9d48e6a8717a51c74ae53ea68540b92753eeba020ae99aca84d6076a297a24"), looks := false }, kinds := [], alts := [], laidByText := true, laidKinds := [.data, .pinned], laidTests := true, laidLooks := .later }
def ActsDecodesUptoCardSaid : Prop := Claim7.holds Tryz.pinned (.plain (OpenSpec.upto actsDecodesSpec)) actsDecodesUptoCard

/-- THE SECOND FORM's CARD OF 'gunwalelaw13.ActsBack'. -/
def actsBackUptoCard : Claim7 := { stood := { row := actsBackUptoRow, standIns := [], harness := (true, "da9d48e6a8717a51c74ae53ea68540b92753eeba020ae99aca84d6076a297a24"), looks := false }, kinds := [], alts := [], laidByText := true, laidKinds := [.data, .pinned], laidTests := true, laidLooks := .later }
def ActsBackUptoCardSaid : Prop := Claim7.holds Tryz.pinned (.plain (OpenSpec.upto actsBackSpec)) actsBackUptoCard
end Rows
end Go.Proofs.YtodnkagabgglfaaGreatDoor
