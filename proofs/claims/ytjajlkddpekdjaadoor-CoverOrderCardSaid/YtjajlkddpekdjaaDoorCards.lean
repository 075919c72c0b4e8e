/-
  DERIVED. GIVEN WITH THE SEED: THE CARDS: each row of YtjajlkddpekdjaaDoorRows.lean that lists a variable, with what it lists TIED to the program's text (the seventh form; the later family's looks); each row that meets fmt, with fmt's text TOLD by the authors' own Lean function (tested against real Go, not proved from fmt's source: count such statements apart). THE CARD IS WHAT COUNTS. Prove the row's statement (the work); the ties are given (YtjajlkddpekdjaaDoorTie.lean); close each card by the builder's one call (the guide's Derived/Test/ToyasCard.lean, 'card_holds'). Laid BY PROGRAM, IN A SANDBOX (cutbox-door.mjs). By AI agents, Wed Nov 11 2026. No macro, syntax, notation, axiom, sorry.
-/
import Derived.Test.YtjajlkddpekdjaaDoorRows
import GoSem.ClaimSeven
namespace Go.Proofs.YtjajlkddpekdjaaDoor
namespace Rows

/-- THE TIED CARD OF 'gunwalelaw11.CoverOrder'. -/
def coverOrderCard : Claim7 := { stood := { row := coverOrderRow, standIns := [], harness := (true, "af70729dbf3d9a048ee4354e28da889d48aa2d7c9481434f1aed92d9f085ae88"), looks := false }, kinds := [], alts := [], laidByText := true, laidKinds := [.data, .pinned], laidTests := true, laidLooks := .later }
def CoverOrderCardSaid : Prop := Claim7.holds Tryd.pinned (.plain (OpenSpec.ofChange coverOrderSpec)) coverOrderCard

/-- THE SECOND FORM's CARD OF 'gunwalelaw11.CoverOrder'. -/
def coverOrderUptoCard : Claim7 := { stood := { row := coverOrderUptoRow, standIns := [], harness := (true, "af70729dbf3d9a048ee4354e28da889d48aa2d7c9481434f1aed92d9f085ae88"), looks := false }, kinds := [], alts := [], laidByText := true, laidKinds := [.data, .pinned], laidTests := true, laidLooks := .later }
def CoverOrderUptoCardSaid : Prop := Claim7.holds Tryd.pinned (.plain (OpenSpec.upto coverOrderSpec)) coverOrderUptoCard
end Rows
end Go.Proofs.YtjajlkddpekdjaaDoor
