/-
  DERIVED. GIVEN WITH THE SEED: THE CARDS: each row of YtgljcfbcdniffaaDoorRows.lean that lists a variable, with what it lists TIED to the program's text (the seventh form; the later family's looks); each row that meets fmt, with fmt's text TOLD by the authors' own Lean function (tested against real Go, not proved from fmt's source: count such statements apart). THE CARD IS WHAT COUNTS. Prove the row's statement (the work); the ties are given (YtgljcfbcdniffaaDoorTie.lean); close each card by the builder's one call (the guide's Derived/Test/ToyasCard.lean, 'card_holds'). Laid BY PROGRAM, IN A SANDBOX (cutbox-door.mjs). By AI agents, Wed Nov 11 2026. No macro, syntax, notation, axiom, sorry.
-/
import Derived.Test.YtgljcfbcdniffaaDoorRows
import GoSem.ClaimSeven
namespace Go.Proofs.YtgljcfbcdniffaaDoor
namespace Rows

/-- THE TIED CARD OF 'gunwalelaw08.OxmCopies'. -/
def oxmCopiesCard : Claim7 := { stood := { row := oxmCopiesRow, standIns := [], harness := (true, "f6797e1e56645189bab804032b813c30c0635f49d563439cc00284bc1b4752a0"), looks := false }, kinds := [], alts := [], laidByText := true, laidKinds := [.data, .pinned], laidTests := true, laidLooks := .later }
def OxmCopiesCardSaid : Prop := Claim7.holds Tryd.pinned (.plain (OpenSpec.ofChange oxmCopiesSpec)) oxmCopiesCard

/-- THE TIED CARD OF 'gunwalelaw19.PortDecodes'. -/
def portDecodesCard : Claim7 := { stood := { row := portDecodesRow, standIns := [], harness := (true, "f6797e1e56645189bab804032b813c30c0635f49d563439cc00284bc1b4752a0"), looks := false }, kinds := [], alts := [], laidByText := true, laidKinds := [.data, .pinned], laidTests := true, laidLooks := .later }
def PortDecodesCardSaid : Prop := Claim7.holds Tryd.pinned (.plain (OpenSpec.ofChange portDecodesSpec)) portDecodesCard

/-- THE TIED CARD OF 'gunwalelaw19.PortNames'. -/
def portNamesCard : Claim7 := { stood := { row := portNamesRow, standIns := [], harness := (true, "f6797e1e56645189bab804032b813c30c0635f49d563439cc00284bc1b4752a0"), looks := false }, kinds := [], alts := [], laidByText := true, laidKinds := [.data, .pinned], laidTests := true, laidLooks := .later }
def PortNamesCardSaid : Prop := Claim7.holds Tryd.pinned (.plain (OpenSpec.ofChange portNamesSpec)) portNamesCard

/-- THE TIED CARD OF 'gunwalelaw19.PortEncodes'. -/
def portEncodesCard : Claim7 := { stood := { row := portEncodesRow, standIns := [], harness := (true, "f6797e1e56645189bab804032b813c30c0635f49d563439cc00284bc1b4752a0"), looks := false }, kinds := [], alts := [], laidByText := true, laidKinds := [.data, .pinned], laidTests := true, laidLooks := .later }
def PortEncodesCardSaid : Prop := Claim7.holds Tryd.pinned (.plain (OpenSpec.ofChange portEncodesSpec)) portEncodesCard

/-- THE TIED CARD OF 'gunwalelaw19.PortBack'. -/
def portBackCard : Claim7 := { stood := { row := portBackRow, standIns := [], harness := (true, "f6797e1e56645189bab804032b813c30c0635f49d563439cc00284bc1b4752a0"), looks := false }, kinds := [], alts := [], laidByText := true, laidKinds := [.data, .pinned], laidTests := true, laidLooks := .later }
def PortBackCardSaid : Prop := Claim7.holds Tryd.pinned (.plain (OpenSpec.ofChange portBackSpec)) portBackCard

/-- THE TIED CARD OF 'gunwalelaw11.CoverOrder'. -/
def coverOrderCard : Claim7 := { stood := { row := coverOrderRow, standIns := [], harness := (true, "f6797e1e56645189bab804032b813c30c0635f49d563439cc00284bc1b4752a0"), looks := false }, kinds := [], alts := [], laidByText := true, laidKinds := [.data, .pinned], laidTests := true, laidLooks := .later }
def CoverOrderCardSaid : Prop := Claim7.holds Tryd.pinned (.plain (OpenSpec.ofChange coverOrderSpec)) coverOrderCard

/-- THE SECOND FORM's CARD OF 'gunwalelaw08.OxmCopies'. -/
def oxmCopiesUptoCard : Claim7 := { stood := { row := oxmCopiesUptoRow, standIns := [], harness := (true, "f6797e1e56645189bab804032b813c30c0635f49d563439cc00284bc1b4752a0"), looks := false }, kinds := [], alts := [], laidByText := true, laidKinds := [.data, .pinned], laidTests := true, laidLooks := .later }
def OxmCopiesUptoCardSaid : Prop := Claim7.holds Tryd.pinned (.plain (OpenSpec.upto oxmCopiesSpec)) oxmCopiesUptoCard

/-- THE SECOND FORM's CARD OF 'gunwalelaw19.PortDecodes'. -/
def portDecodesUptoCard : Claim7 := { stood := { row := portDecodesUptoRow, standIns := [], harness := (true, "f6797e1e56645189bab804032b813c30c0635f49d563439cc00284bc1b4752a0"), looks := false }, kinds := [], alts := [], laidByText := true, laidKinds := [.data, .pinned], laidTests := true, laidLooks := .later }
def PortDecodesUptoCardSaid : Prop := Claim7.holds Tryd.pinned (.plain (OpenSpec.upto portDecodesSpec)) portDecodesUptoCard

/-- THE SECOND FORM's CARD OF 'gunwalelaw19.PortNames'. -/
def portNamesUptoCard : Claim7 := { stood := { row := portNamesUptoRow, standIns := [], harness := (true, "f6797e1e56645189bab804032b813c30c0635f49d563439cc00284bc1b4752a0"), looks := false }, kinds := [], alts := [], laidByText := true, laidKinds := [.data, .pinned], laidTests := true, laidLooks := .later }
def PortNamesUptoCardSaid : Prop := Claim7.holds Tryd.pinned (.plain (OpenSpec.upto portNamesSpec)) portNamesUptoCard

/-- THE SECOND FORM's CARD OF 'gunwalelaw19.PortEncodes'. -/
def portEncodesUptoCard : Claim7 := { stood := { row := portEncodesUptoRow, standIns := [], harness := (true, "f6797e1e56645189bab804032b813c30c0635f49d563439cc00284bc1b4752a0"), looks := false }, kinds := [], alts := [], laidByText := true, laidKinds := [.data, .pinned], laidTests := true, laidLooks := .later }
def PortEncodesUptoCardSaid : Prop := Claim7.holds Tryd.pinned (.plain (OpenSpec.upto portEncodesSpec)) portEncodesUptoCard

/-- THE SECOND FORM's CARD OF 'gunwalelaw19.PortBack'. -/
def portBackUptoCard : Claim7 := { stood := { row := portBackUptoRow, standIns := [], harness := (true, "f6797e1e56645189bab804032b813c30c0635f49d563439cc00284bc1b4752a0"), looks := false }, kinds := [], alts := [], laidByText := true, laidKinds := [.data, .pinned], laidTests := true, laidLooks := .later }
def PortBackUptoCardSaid : Prop := Claim7.holds Tryd.pinned (.plain (OpenSpec.upto portBackSpec)) portBackUptoCard

/-- THE SECOND FORM's CARD OF 'gunwalelaw11.CoverOrder'. -/
def coverOrderUptoCard : Claim7 := { stood := { row := coverOrderUptoRow, standIns := [], harness := (true, "f6797e1e56645189bab804032b813c30c0635f49d563439cc00284bc1b4752a0"), looks := false }, kinds := [], alts := [], laidByText := true, laidKinds := [.data, .pinned], laidTests := true, laidLooks := .later }
def CoverOrderUptoCardSaid : Prop := Claim7.holds Tryd.pinned (.plain (OpenSpec.upto coverOrderSpec)) coverOrderUptoCard
end Rows
end Go.Proofs.YtgljcfbcdniffaaDoor
