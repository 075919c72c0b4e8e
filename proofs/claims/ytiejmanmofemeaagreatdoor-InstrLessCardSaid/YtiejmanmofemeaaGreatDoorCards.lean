/-
  DERIVED. GIVEN WITH THE SEED: THE CARDS: each row of YtiejmanmofemeaaGreatDoorRows.lean that lists a variable, with what it lists TIED to the program's text (the seventh form; the later family's looks); each row that meets fmt, with fmt's text TOLD by the authors' own Lean function (tested against real Go, not proved from fmt's source: count such statements apart). THE CARD IS WHAT COUNTS. Prove the row's statement (the work); the ties are given (YtiejmanmofemeaaGreatDoorTie.lean); close each card by the builder's one call (the guide's Derived/Test/ToyasCard.lean, 'card_holds'). Laid BY PROGRAM, IN A SANDBOX (cutbox-door.mjs). By AI agents, Wed Nov 11 2026. No macro, syntax, notation, axiom, sorry.
-/
import Derived.Test.YtiejmanmofemeaaGreatDoorRows
import GoSem.ClaimSeven
namespace Go.Proofs.YtiejmanmofemeaaGreatDoor
namespace Rows

/-- THE TIED CARD OF 'gunwalelaw15.InstrLess'. -/
def instrLessCard : Claim7 := { stood := { row := instrLessRow, standIns := [], harness := (true, "a9e17342c205be773b35bd8ea616b3af409e341d6b0b5844a777f092f4de5a4b"), looks := false }, kinds := [], alts := [], laidByText := true, laidKinds := [.data, .pinned], laidTests := true, laidLooks := .later }
def InstrLessCardSaid : Prop := Claim7.holds Tryz.pinned (.plain (OpenSpec.ofChange instrLessSpec)) instrLessCard

/-- THE TIED CARD OF 'gunwalelaw15.InstrDecodes'. -/
def instrDecodesCard : Claim7 := { stood := { row := instrDecodesRow, standIns := [], harness := (true, "a9e17342c205be773b35bd8ea616b3af409e341d6b0b5844a777f092f4de5a4b"), looks := false }, kinds := [], alts := [], laidByText := true, laidKinds := [.data, .pinned], laidTests := true, laidLooks := .later }
def InstrDecodesCardSaid : Prop := Claim7.holds Tryz.pinned (.plain (OpenSpec.ofChange instrDecodesSpec)) instrDecodesCard

/-- THE TIED CARD OF 'gunwalelaw15.InstrBack'. -/
def instrBackCard : Claim7 := { stood := { row := instrBackRow, standIns := [], harness := (true, "a9e17342c205be773b35bd8ea616b3af409e341d6b0b5844a777f092f4de5a4b"), looks := false }, kinds := [], alts := [], laidByText := true, laidKinds := [.data, .pinned], laidTests := true, laidLooks := .later }
def InstrBackCardSaid : Prop := Claim7.holds Tryz.pinned (.plain (OpenSpec.ofChange instrBackSpec)) instrBackCard

/-- THE TIED CARD OF 'gunwalelaw24.PacketWrites'. -/
def packetWritesCard : Claim7 := { stood := { row := packetWritesRow, standIns := [], harness := (true, "a9e17342c205be773b35bd8ea616b3af409e341d6b0b5844a777f092f4de5a4b"), looks := false }, kinds := [], alts := [], laidByText := true, laidKinds := [.data, .pinned], laidTests := true, laidLooks := .later }
def PacketWritesCardSaid : Prop := Claim7.holds Tryz.pinned (.plain (OpenSpec.ofChange packetWritesSpec)) packetWritesCard

/-- THE TIED CARD OF 'gunwalelaw24.PacketReads'. -/
def packetReadsCard : Claim7 := { stood := { row := packetReadsRow, standIns := [], harness := (true, "a9e17342c205be773b35bd8ea616b3af409e341d6b0b5844a777f092f4de5a4b"), looks := false }, kinds := [], alts := [], laidByText := true, laidKinds := [.data, .pinned], laidTests := true, laidLooks := .later }
def PacketReadsCardSaid : Prop := Claim7.holds Tryz.pinned (.plain (OpenSpec.ofChange packetReadsSpec)) packetReadsCard

/-- THE TIED CARD OF 'gunwalelaw24.PacketBack'. -/
def packetBackCard : Claim7 := { stood := { row := packetBackRow, standIns := [], harness := (true, "a9e17342c205be773b35bd8ea616b3af409e341d6b0b5844a777f092f4de5a4b"), looks := false }, kinds := [], alts := [], laidByText := true, laidKinds := [.data, .pinned], laidTests := true, laidLooks := .later }
def PacketBackCardSaid : Prop := Claim7.holds Tryz.pinned (.plain (OpenSpec.ofChange packetBackSpec)) packetBackCard

/-- THE TIED CARD OF 'gunwalelaw23.FlowWrites'. -/
def flowWritesCard : Claim7 := { stood := { row := flowWritesRow, standIns := [], harness := (true, "a9e17342c205be773b35bd8ea616b3af409e341d6b0b5844a777f092f4de5a4b"), looks := false }, kinds := [], alts := [], laidByText := true, laidKinds := [.data, .pinned], laidTests := true, laidLooks := .later }
def FlowWritesCardSaid : Prop := Claim7.holds Tryz.pinned (.plain (OpenSpec.ofChange flowWritesSpec)) flowWritesCard

/-- THE TIED CARD OF 'gunwalelaw23.FlowReads'. -/
def flowReadsCard : Claim7 := { stood := { row := flowReadsRow, standIns := [], harness := (true, "a9e17342c205be773b35bd8ea616b3af409e341d6b0b5844a777f092f4de5a4b"), looks := false }, kinds := [], alts := [], laidByText := true, laidKinds := [.data, .pinned], laidTests := true, laidLooks := .later }
def FlowReadsCardSaid : Prop := Claim7.holds Tryz.pinned (.plain (OpenSpec.ofChange flowReadsSpec)) flowReadsCard

/-- THE TIED CARD OF 'gunwalelaw23.FlowBack'. -/
def flowBackCard : Claim7 := { stood := { row := flowBackRow, standIns := [], harness := (true, "a9e17342c205be773b35bd8ea616b3af409e341d6b0b5844a777f092f4de5a4b"), looks := false }, kinds := [], alts := [], laidByText := true, laidKinds := [.data, .pinned], laidTests := true, laidLooks := .later }
def FlowBackCardSaid : Prop := Claim7.holds Tryz.pinned (.plain (OpenSpec.ofChange flowBackSpec)) flowBackCard

/-- THE TIED CARD OF 'gunwalelaw23.FlowDeletes'. -/
def flowDeletesCard : Claim7 := { stood := { row := flowDeletesRow, standIns := [], harness := (true, "a9e17342c205be773b35bd8ea616b3af409e341d6b0b5844a777f092f4de5a4b"), looks := false }, kinds := [], alts := [], laidByText := true, laidKinds := [.data, .pinned], laidTests := true, laidLooks := .later }
def FlowDeletesCardSaid : Prop := Claim7.holds Tryz.pinned (.plain (OpenSpec.ofChange flowDeletesSpec)) flowDeletesCard

/-- THE SECOND FORM's CARD OF 'gunwalelaw15.InstrLess'. -/
def instrLessUptoCard : Claim7 := { stood := { row := instrLessUptoRow, standIns := [], harness := (true, "a9e17342c205be773b35bd8ea616b3af409e341d6b0b5844a777f092f4de5a4b"), looks := false }, kinds := [], alts := [], laidByText := true, laidKinds := [.data, .pinned], laidTests := true, laidLooks := .later }
def InstrLessUptoCardSaid : Prop := Claim7.holds Tryz.pinned (.plain (OpenSpec.upto instrLessSpec)) instrLessUptoCard

/-- THE SECOND FORM's CARD OF 'gunwalelaw15.InstrDecodes'. -/
def instrDecodesUptoCard : Claim7 := { stood := { row := instrDecodesUptoRow, standIns := [], harness := (true, "a9e17342c205be773b35bd8ea616b3af409e341d6b0b5844a777f092f4de5a4b"), looks := false }, kinds := [], alts := [], laidByText := true, laidKinds := [.data, .pinned], laidTests := true, laidLooks := .later }
def InstrDecodesUptoCardSaid : Prop := Claim7.holds Tryz.pinned (.plain (OpenSpec.upto instrDecodesSpec)) instrDecodesUptoCard

/-- THE SECOND FORM's CARD OF 'gunwalelaw15.InstrBack'. -/
def instrBackUptoCard : Claim7 := { stood := { row := instrBackUptoRow, standIns := [], harness := (true, "a9e17342c205be773b35bd8ea616b3af409e341d6b0b5844a777f092f4de5a4b"), looks := false }, kinds := [], alts := [], laidByText := true, laidKinds := [.data, .pinned], laidTests := true, laidLooks := .later }
def InstrBackUptoCardSaid : Prop := Claim7.holds Tryz.pinned (.plain (OpenSpec.upto instrBackSpec)) instrBackUptoCard

/-- THE SECOND FORM's CARD OF 'gunwalelaw24.PacketWrites'. -/
def packetWritesUptoCard : Claim7 := { stood := { row := packetWritesUptoRow, standIns := [], harness := (true, "a9e17342c205be773b35bd8ea616b3af409e341d6b0b5844a777f092f4de5a4b"), looks := false }, kinds := [], alts := [], laidByText := true, laidKinds := [.data, .pinned], laidTests := true, laidLooks := .later }
def PacketWritesUptoCardSaid : Prop := Claim7.holds Tryz.pinned (.plain (OpenSpec.upto packetWritesSpec)) packetWritesUptoCard

/-- THE SECOND FORM's CARD OF 'gunwalelaw24.PacketReads'. -/
def packetReadsUptoCard : Claim7 := { stood := { row := packetReadsUptoRow, standIns := [], harness := (true, "a9e17342c205be773b35bd8ea616b3af409e341d6b0b5844a777f092f4de5a4b"), looks := false }, kinds := [], alts := [], laidByText := true, laidKinds := [.data, .pinned], laidTests := true, laidLooks := .later }
def PacketReadsUptoCardSaid : Prop := Claim7.holds Tryz.pinned (.plain (OpenSpec.upto packetReadsSpec)) packetReadsUptoCard

/-- THE SECOND FORM's CARD OF 'gunwalelaw24.PacketBack'. -/
def packetBackUptoCard : Claim7 := { stood := { row := packetBackUptoRow, standIns := [], harness := (true, "a9e17342c205be773b35bd8ea616b3af409e341d6b0b5844a777f092f4de5a4b"), looks := false }, kinds := [], alts := [], laidByText := true, laidKinds := [.data, .pinned], laidTests := true, laidLooks := .later }
def PacketBackUptoCardSaid : Prop := Claim7.holds Tryz.pinned (.plain (OpenSpec.upto packetBackSpec)) packetBackUptoCard

/-- THE SECOND FORM's CARD OF 'gunwalelaw23.FlowWrites'. -/
def flowWritesUptoCard : Claim7 := { stood := { row := flowWritesUptoRow, standIns := [], harness := (true, "a9e17342c205be773b35bd8ea616b3af409e341d6b0b5844a777f092f4de5a4b"), looks := false }, kinds := [], alts := [], laidByText := true, laidKinds := [.data, .pinned], laidTests := true, laidLooks := .later }
def FlowWritesUptoCardSaid : Prop := Claim7.holds Tryz.pinned (.plain (OpenSpec.upto flowWritesSpec)) flowWritesUptoCard

/-- THE SECOND FORM's CARD OF 'gunwalelaw23.FlowReads'. -/
def flowReadsUptoCard : Claim7 := { stood := { row := flowReadsUptoRow, standIns := [], harness := (true, "a9e17342c205be773b35bd8ea616b3af409e341d6b0b5844a777f092f4de5a4b"), looks := false }, kinds := [], alts := [], laidByText := true, laidKinds := [.data, .pinned], laidTests := true, laidLooks := .later }
def FlowReadsUptoCardSaid : Prop := Claim7.holds Tryz.pinned (.plain (OpenSpec.upto flowReadsSpec)) flowReadsUptoCard

/-- THE SECOND FORM's CARD OF 'gunwalelaw23.FlowBack'. -/
def flowBackUptoCard : Claim7 := { stood := { row := flowBackUptoRow, standIns := [], harness := (true, "a9e17342c205be773b35bd8ea616b3af409e341d6b0b5844a777f092f4de5a4b"), looks := false }, kinds := [], alts := [], laidByText := true, laidKinds := [.data, .pinned], laidTests := true, laidLooks := .later }
def FlowBackUptoCardSaid : Prop := Claim7.holds Tryz.pinned (.plain (OpenSpec.upto flowBackSpec)) flowBackUptoCard

/-- THE SECOND FORM's CARD OF 'gunwalelaw23.FlowDeletes'. -/
def flowDeletesUptoCard : Claim7 := { stood := { row := flowDeletesUptoRow, standIns := [], harness := (true, "a9e17342c205be773b35bd8ea616b3af409e341d6b0b5844a777f092f4de5a4b"), looks := false }, kinds := [], alts := [], laidByText := true, laidKinds := [.data, .pinned], laidTests := true, laidLooks := .later }
def FlowDeletesUptoCardSaid : Prop := Claim7.holds Tryz.pinned (.plain (OpenSpec.upto flowDeletesSpec)) flowDeletesUptoCard
end Rows
end Go.Proofs.YtiejmanmofemeaaGreatDoor
