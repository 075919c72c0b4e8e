/-
  DERIVED. GIVEN WITH THE SEED: THE CARDS: each row of YteihcoggfaenaaaGreatDoorRows.lean that lists a variable, with what it lists TIED to the program's text (the seventh form; the later family's looks); each row that meets fmt, with fmt's text TOLD by the authors' own Lean function (tested against real Go, not proved from fmt's source: count such statements apart). THE CARD IS WHAT COUNTS. Prove the row's statement (the work); the ties are given (YteihcoggfaenaaaGreatDoorTie.lean); close each card by the builder's one call (the guide's Derived/Test/ToyasCard.lean, 'card_holds'). Laid BY PROGRAM, IN A SANDBOX (cutbox-door.mjs). By AI agents, Wed Nov 11 2026. No macro, syntax, notation, axiom, sorry.
-/
import Derived.Test.YteihcoggfaenaaaGreatDoorRows
import GoSem.ClaimSeven
namespace Go.Proofs.YteihcoggfaenaaaGreatDoor
namespace Rows

/-- THE TIED CARD OF 'gunwalelaw23.FlowWrites'. -/
def flowWritesCard : Claim7 := { stood := { row := flowWritesRow, standIns := [], harness := (true, "9ef17c3d59d7a2595c01a874b30c7956afcb97e6540d4131f6d5dedf20c2f200"), looks := false }, kinds := [], alts := [], laidByText := true, laidKinds := [.data, .pinned], laidTests := true, laidLooks := .later }
def FlowWritesCardSaid : Prop := Claim7.holds Tryz.pinned (.plain (OpenSpec.ofChange flowWritesSpec)) flowWritesCard

/-- THE TIED CARD OF 'gunwalelaw23.FlowReads'. -/
def flowReadsCard : Claim7 := { stood := { row := flowReadsRow, standIns := [], harness := (true, "9ef17c3d59d7a2595c01a874b30c7956afcb97e6540d4131f6d5dedf20c2f200"), looks := false }, kinds := [], alts := [], laidByText := true, laidKinds := [.data, .pinned], laidTests := true, laidLooks := .later }
def FlowReadsCardSaid : Prop := Claim7.holds Tryz.pinned (.plain (OpenSpec.ofChange flowReadsSpec)) flowReadsCard

/-- THE TIED CARD OF 'gunwalelaw23.FlowBack'. -/
def flowBackCard : Claim7 := { stood := { row := flowBackRow, standIns := [], harness := (true, "9ef17c3d59d7a2595c01a874b30c7956afcb97e6540d4131f6d5dedf20c2f200"), looks := false }, kinds := [], alts := [], laidByText := true, laidKinds := [.data, .pinned], laidTests := true, laidLooks := .later }
def FlowBackCardSaid : Prop := Claim7.holds Tryz.pinned (.plain (OpenSpec.ofChange flowBackSpec)) flowBackCard

/-- THE TIED CARD OF 'gunwalelaw23.FlowDeletes'. -/
def flowDeletesCard : Claim7 := { stood := { row := flowDeletesRow, standIns := [], harness := (true, "9ef17c3d59d7a2595c01a874b30c7956afcb97e6540d4131f6d5dedf20c2f200"), looks := false }, kinds := [], alts := [], laidByText := true, laidKinds := [.data, .pinned], laidTests := true, laidLooks := .later }
def FlowDeletesCardSaid : Prop := Claim7.holds Tryz.pinned (.plain (OpenSpec.ofChange flowDeletesSpec)) flowDeletesCard

/-- THE SECOND FORM's CARD OF 'gunwalelaw23.FlowWrites'. -/
def flowWritesUptoCard : Claim7 := { stood := { row := flowWritesUptoRow, standIns := [], harness := (true, "9ef17c3d59d7a2595c01a874b30c7956afcb97e6540d4131f6d5dedf20c2f200"), looks := false }, kinds := [], alts := [], laidByText := true, laidKinds := [.data, .pinned], laidTests := true, laidLooks := .later }
def FlowWritesUptoCardSaid : Prop := Claim7.holds Tryz.pinned (.plain (OpenSpec.upto flowWritesSpec)) flowWritesUptoCard

/-- THE SECOND FORM's CARD OF 'gunwalelaw23.FlowReads'. -/
def flowReadsUptoCard : Claim7 := { stood := { row := flowReadsUptoRow, standIns := [], harness := (true, "9ef17c3d59d7a2595c01a874b30c7956afcb97e6540d4131f6d5dedf20c2f200"), looks := false }, kinds := [], alts := [], laidByText := true, laidKinds := [.data, .pinned], laidTests := true, laidLooks := .later }
def FlowReadsUptoCardSaid : Prop := Claim7.holds Tryz.pinned (.plain (OpenSpec.upto flowReadsSpec)) flowReadsUptoCard

/-- THE SECOND FORM's CARD OF 'gunwalelaw23.FlowBack'. -/
def flowBackUptoCard : Claim7 := { stood := { row := flowBackUptoRow, standIns := [], harness := (true, "9ef17c3d59d7a2595c01a874b30c7956afcb97e6540d4131f6d5dedf20c2f200"), looks := false }, kinds := [], alts := [], laidByText := true, laidKinds := [.data, .pinned], laidTests := true, laidLooks := .later }
def FlowBackUptoCardSaid : Prop := Claim7.holds Tryz.pinned (.plain (OpenSpec.upto flowBackSpec)) flowBackUptoCard

/-- THE SECOND FORM's CARD OF 'gunwalelaw23.FlowDeletes'. -/
def flowDeletesUptoCard : Claim7 := { stood := { row := flowDeletesUptoRow, standIns := [], harness := (true, "9ef17c3d59d7a2595c01a874b30c7956afcb97e6540d4131f6d5dedf20c2f200"), looks := false }, kinds := [], alts := [], laidByText := true, laidKinds := [.data, .pinned], laidTests := true, laidLooks := .later }
def FlowDeletesUptoCardSaid : Prop := Claim7.holds Tryz.pinned (.plain (OpenSpec.upto flowDeletesSpec)) flowDeletesUptoCard
end Rows
end Go.Proofs.YteihcoggfaenaaaGreatDoor
