/-
  DERIVED. GIVEN WITH THE SEED: THE CARDS: each row of YtcicjbcgnkbffaaDoorRows.lean that lists a variable, with what it lists TIED to the program's text (the seventh form; the later family's looks); each row that meets fmt, with fmt's text TOLD by the authors' own Lean function (tested against real Go, not proved from fmt's source: count such statements apart). THE CARD IS WHAT COUNTS. Prove the row's statement (the work); the ties are given (YtcicjbcgnkbffaaDoorTie.lean); close each card by the builder's one call (the guide's Derived/Test/ToyasCard.lean, 'card_holds'). Laid BY PROGRAM, IN A SANDBOX (cutbox-door.mjs). By AI agents, Wed Nov 11 2026. No macro, syntax, notation, axiom, sorry.
-/
import Derived.Test.YtcicjbcgnkbffaaDoorRows
import GoSem.ClaimSeven
namespace Go.Proofs.YtcicjbcgnkbffaaDoor
namespace Rows

/-- THE TIED CARD OF 'gunwalelaw08.OxmEncodes'. -/
def oxmEncodesCard : Claim7 := { stood := { row := oxmEncodesRow, standIns := [], harness := (true, "fe9f9f14e2af65178d93e25bc76990d57b54bd255c61b941d5df0d01abda8bd0"), looks := false }, kinds := [], alts := [], laidByText := true, laidKinds := [.data, .pinned], laidTests := true, laidLooks := .later }
def OxmEncodesCardSaid : Prop := Claim7.holds Tryd.pinned (.plain (OpenSpec.ofChange oxmEncodesSpec)) oxmEncodesCard

/-- THE TIED CARD OF 'gunwalelaw08.OxmDecodes'. -/
def oxmDecodesCard : Claim7 := { stood := { row := oxmDecodesRow, standIns := [], harness := (true, "fe9f9f14e2af65178d93e25bc76990d57b54bd255c61b941d5df0d01abda8bd0"), looks := false }, kinds := [], alts := [], laidByText := true, laidKinds := [.data, .pinned], laidTests := true, laidLooks := .later }
def OxmDecodesCardSaid : Prop := Claim7.holds Tryd.pinned (.plain (OpenSpec.ofChange oxmDecodesSpec)) oxmDecodesCard

/-- THE TIED CARD OF 'gunwalelaw08.OxmBack'. -/
def oxmBackCard : Claim7 := { stood := { row := oxmBackRow, standIns := [], harness := (true, "fe9f9f14e2af65178d93e25bc76990d57b54bd255c61b941d5df0d01abda8bd0"), looks := false }, kinds := [], alts := [], laidByText := true, laidKinds := [.data, .pinned], laidTests := true, laidLooks := .later }
def OxmBackCardSaid : Prop := Claim7.holds Tryd.pinned (.plain (OpenSpec.ofChange oxmBackSpec)) oxmBackCard

/-- THE SECOND FORM's CARD OF 'gunwalelaw08.OxmEncodes'. -/
def oxmEncodesUptoCard : Claim7 := { stood := { row := oxmEncodesUptoRow, standIns := [], harness := (true, "fe9f9f14e2af65178d93e25bc76990d57b54bd255c61b941d5df0d01abda8bd0"), looks := false }, kinds := [], alts := [], laidByText := true, laidKinds := [.data, .pinned], laidTests := true, laidLooks := .later }
def OxmEncodesUptoCardSaid : Prop := Claim7.holds Tryd.pinned (.plain (OpenSpec.upto oxmEncodesSpec)) oxmEncodesUptoCard

/-- THE SECOND FORM's CARD OF 'gunwalelaw08.OxmDecodes'. -/
def oxmDecodesUptoCard : Claim7 := { stood := { row := oxmDecodesUptoRow, standIns := [], harness := (true, "fe9f9f14e2af65178d93e25bc76990d57b54bd255c61b941d5df0d01abda8bd0"), looks := false }, kinds := [], alts := [], laidByText := true, laidKinds := [.data, .pinned], laidTests := true, laidLooks := .later }
def OxmDecodesUptoCardSaid : Prop := Claim7.holds Tryd.pinned (.plain (OpenSpec.upto oxmDecodesSpec)) oxmDecodesUptoCard

/-- THE SECOND FORM's CARD OF 'gunwalelaw08.OxmBack'. -/
def oxmBackUptoCard : Claim7 := { stood := { row := oxmBackUptoRow, standIns := [], harness := (true, "fe9f9f14e2af65178d93e25bc76990d57b54bd255c61b941d5df0d01abda8bd0"), looks := false }, kinds := [], alts := [], laidByText := true, laidKinds := [.data, .pinned], laidTests := true, laidLooks := .later }
def OxmBackUptoCardSaid : Prop := Claim7.holds Tryd.pinned (.plain (OpenSpec.upto oxmBackSpec)) oxmBackUptoCard
end Rows
end Go.Proofs.YtcicjbcgnkbffaaDoor
