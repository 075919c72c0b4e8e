/-
  DERIVED. GIVEN WITH THE SEED: THE CARDS: each row of YtbenhegdnaoalaaGreatDoorRows.lean that lists a variable, with what it lists TIED to the program's text (the seventh form; the later family's looks); each row that meets fmt, with fmt's text TOLD by the authors' own Lean function (tested against real Go, not proved from fmt's source: count such statements apart). THE CARD IS WHAT COUNTS. Prove the row's statement (the work); the ties are given (YtbenhegdnaoalaaGreatDoorTie.lean); close each card by the builder's one call (the guide's Derived/Test/ToyasCard.lean, 'card_holds'). Laid BY PROGRAM, IN A SANDBOX (cutbox-door.mjs). By AI agents, Wed Nov 11 2026. No macro, syntax, notation, axiom, sorry.
-/
import Derived.Test.YtbenhegdnaoalaaGreatDoorRows
import GoSem.ClaimSeven
namespace Go.Proofs.YtbenhegdnaoalaaGreatDoor
namespace Rows

/-- THE TIED CARD OF 'gunwalelaw27.TallyWrites'. -/
def tallyWritesCard : Claim7 := { stood := { row := tallyWritesRow, standIns := [], harness := (true, "7c87254894bdbbae9c5e57ef403886e007e11be8e5bb3346b0378ccc105017fd"), looks := false }, kinds := [], alts := [], laidByText := true, laidKinds := [.data, .pinned], laidTests := true, laidLooks := .later }
def TallyWritesCardSaid : Prop := Claim7.holds Tryz.pinned (.plain (OpenSpec.ofChange tallyWritesSpec)) tallyWritesCard

/-- THE TIED CARD OF 'gunwalelaw27.TallyReads'. -/
def tallyReadsCard : Claim7 := { stood := { row := tallyReadsRow, standIns := [], harness := (true, "7c87254894bdbbae9c5e57ef403886e007e11be8e5bb3346b0378ccc105017fd"), looks := false }, kinds := [], alts := [], laidByText := true, laidKinds := [.data, .pinned], laidTests := true, laidLooks := .later }
def TallyReadsCardSaid : Prop := Claim7.holds Tryz.pinned (.plain (OpenSpec.ofChange tallyReadsSpec)) tallyReadsCard

/-- THE TIED CARD OF 'gunwalelaw27.TallyBack'. -/
def tallyBackCard : Claim7 := { stood := { row := tallyBackRow, standIns := [], harness := (true, "7c87254894bdbbae9c5e57ef403886e007e11be8e5bb3346b0378ccc105017fd"), looks := false }, kinds := [], alts := [], laidByText := true, laidKinds := [.data, .pinned], laidTests := true, laidLooks := .later }
def TallyBackCardSaid : Prop := Claim7.holds Tryz.pinned (.plain (OpenSpec.ofChange tallyBackSpec)) tallyBackCard

/-- THE TIED CARD OF 'gunwalelaw16.BucketDecodes'. -/
def bucketDecodesCard : Claim7 := { stood := { row := bucketDecodesRow, standIns := [], harness := (true, "7c87254894bdbbae9c5e57ef403886e007e11be8e5bb3346b0378ccc105017fd"), looks := false }, kinds := [], alts := [], laidByText := true, laidKinds := [.data, .pinned], laidTests := true, laidLooks := .later }
def BucketDecodesCardSaid : Prop := Claim7.holds Tryz.pinned (.plain (OpenSpec.ofChange bucketDecodesSpec)) bucketDecodesCard

/-- THE TIED CARD OF 'gunwalelaw16.BucketChooses'. -/
def bucketChoosesCard : Claim7 := { stood := { row := bucketChoosesRow, standIns := [], harness := (true, "7c87254894bdbbae9c5e57ef403886e007e11be8e5bb3346b0378ccc105017fd"), looks := false }, kinds := [], alts := [], laidByText := true, laidKinds := [.data, .pinned], laidTests := true, laidLooks := .later }
def BucketChoosesCardSaid : Prop := Claim7.holds Tryz.pinned (.plain (OpenSpec.ofChange bucketChoosesSpec)) bucketChoosesCard

/-- THE TIED CARD OF 'gunwalelaw16.BucketShares'. -/
def bucketSharesCard : Claim7 := { stood := { row := bucketSharesRow, standIns := [], harness := (true, "7c87254894bdbbae9c5e57ef403886e007e11be8e5bb3346b0378ccc105017fd"), looks := false }, kinds := [], alts := [], laidByText := true, laidKinds := [.data, .pinned], laidTests := true, laidLooks := .later }
def BucketSharesCardSaid : Prop := Claim7.holds Tryz.pinned (.plain (OpenSpec.ofChange bucketSharesSpec)) bucketSharesCard

/-- THE TIED CARD OF 'gunwalelaw16.BucketEncodes'. -/
def bucketEncodesCard : Claim7 := { stood := { row := bucketEncodesRow, standIns := [], harness := (true, "7c87254894bdbbae9c5e57ef403886e007e11be8e5bb3346b0378ccc105017fd"), looks := false }, kinds := [], alts := [], laidByText := true, laidKinds := [.data, .pinned], laidTests := true, laidLooks := .later }
def BucketEncodesCardSaid : Prop := Claim7.holds Tryz.pinned (.plain (OpenSpec.ofChange bucketEncodesSpec)) bucketEncodesCard

/-- THE TIED CARD OF 'gunwalelaw16.BucketBack'. -/
def bucketBackCard : Claim7 := { stood := { row := bucketBackRow, standIns := [], harness := (true, "7c87254894bdbbae9c5e57ef403886e007e11be8e5bb3346b0378ccc105017fd"), looks := false }, kinds := [], alts := [], laidByText := true, laidKinds := [.data, .pinned], laidTests := true, laidLooks := .later }
def BucketBackCardSaid : Prop := Claim7.holds Tryz.pinned (.plain (OpenSpec.ofChange bucketBackSpec)) bucketBackCard

/-- THE TIED CARD OF 'gunwalelaw24.PacketWrites'. -/
def packetWritesCard : Claim7 := { stood := { row := packetWritesRow, standIns := [], harness := (true, "7c87254894bdbbae9c5e57ef403886e007e11be8e5bb3346b0378ccc105017fd"), looks := false }, kinds := [], alts := [], laidByText := true, laidKinds := [.data, .pinned], laidTests := true, laidLooks := .later }
def PacketWritesCardSaid : Prop := Claim7.holds Tryz.pinned (.plain (OpenSpec.ofChange packetWritesSpec)) packetWritesCard

/-- THE TIED CARD OF 'gunwalelaw24.PacketReads'. -/
def packetReadsCard : Claim7 := { stood := { row := packetReadsRow, standIns := [], harness := (true, "7c87254894bdbbae9c5e57ef403886e007e11be8e5bb3346b0378ccc105017fd"), looks := false }, kinds := [], alts := [], laidByText := true, laidKinds := [.data, .pinned], laidTests := true, laidLooks := .later }
def PacketReadsCardSaid : Prop := Claim7.holds Tryz.pinned (.plain (OpenSpec.ofChange packetReadsSpec)) packetReadsCard

/-- THE TIED CARD OF 'gunwalelaw24.PacketBack'. -/
def packetBackCard : Claim7 := { stood := { row := packetBackRow, standIns := [], harness := (true, "7c87254894bdbbae9c5e57ef403886e007e11be8e5bb3346b0378ccc105017fd"), looks := false }, kinds := [], alts := [], laidByText := true, laidKinds := [.data, .pinned], laidTests := true, laidLooks := .later }
def PacketBackCardSaid : Prop := Claim7.holds Tryz.pinned (.plain (OpenSpec.ofChange packetBackSpec)) packetBackCard

/-- THE SECOND FORM's CARD OF 'gunwalelaw27.TallyWrites'. -/
def tallyWritesUptoCard : Claim7 := { stood := { row := tallyWritesUptoRow, standIns := [], harness := (true, "7c87254894bdbbae9c5e57ef403886e007e11be8e5bb3346b0378ccc105017fd"), looks := false }, kinds := [], alts := [], laidByText := true, laidKinds := [.data, .pinned], laidTests := true, laidLooks := .later }
def TallyWritesUptoCardSaid : Prop := Claim7.holds Tryz.pinned (.plain (OpenSpec.upto tallyWritesSpec)) tallyWritesUptoCard

/-- THE SECOND FORM's CARD OF 'gunwalelaw27.TallyReads'. -/
def tallyReadsUptoCard : Claim7 := { stood := { row := tallyReadsUptoRow, standIns := [], harness := (true, "7c87254894bdbbae9c5e57ef403886e007e11be8e5bb3346b0378ccc105017fd"), looks := false }, kinds := [], alts := [], laidByText := true, laidKinds := [.data, .pinned], laidTests := true, laidLooks := .later }
def TallyReadsUptoCardSaid : Prop := Claim7.holds Tryz.pinned (.plain (OpenSpec.upto tallyReadsSpec)) tallyReadsUptoCard

/-- THE SECOND FORM's CARD OF 'gunwalelaw27.TallyBack'. -/
def tallyBackUptoCard : Claim7 := { stood := { row := tallyBackUptoRow, standIns := [], harness := (true, "7c87254894bdbbae9c5e57ef403886e007e11be8e5bb3346b0378ccc105017fd"), looks := false }, kinds := [], alts := [], laidByText := true, laidKinds := [.data, .pinned], laidTests := true, laidLooks := .later }
def TallyBackUptoCardSaid : Prop := Claim7.holds Tryz.pinned (.plain (OpenSpec.upto tallyBackSpec)) tallyBackUptoCard

/-- THE SECOND FORM's CARD OF 'gunwalelaw16.BucketDecodes'. -/
def bucketDecodesUptoCard : Claim7 := { stood := { row := bucketDecodesUptoRow, standIns := [], harness := (true, "7c87254894bdbbae9c5e57ef403886e007e11be8e5bb3346b0378ccc105017fd"), looks := false }, kinds := [], alts := [], laidByText := true, laidKinds := [.data, .pinned], laidTests := true, laidLooks := .later }
def BucketDecodesUptoCardSaid : Prop := Claim7.holds Tryz.pinned (.plain (OpenSpec.upto bucketDecodesSpec)) bucketDecodesUptoCard

/-- THE SECOND FORM's CARD OF 'gunwalelaw16.BucketChooses'. -/
def bucketChoosesUptoCard : Claim7 := { stood := { row := bucketChoosesUptoRow, standIns := [], harness := (true, "7c87254894bdbbae9c5e57ef403886e007e11be8e5bb3346b0378ccc105017fd"), looks := false }, kinds := [], alts := [], laidByText := true, laidKinds := [.data, .pinned], laidTests := true, laidLooks := .later }
def BucketChoosesUptoCardSaid : Prop := Claim7.holds Tryz.pinned (.plain (OpenSpec.upto bucketChoosesSpec)) bucketChoosesUptoCard

/-- THE SECOND FORM's CARD OF 'gunwalelaw16.BucketShares'. -/
def bucketSharesUptoCard : Claim7 := { stood := { row := bucketSharesUptoRow, standIns := [], harness := (true, "7c87254894bdbbae9c5e57ef403886e007e11be8e5bb3346b0378ccc105017fd"), looks := false }, kinds := [], alts := [], laidByText := true, laidKinds := [.data, .pinned], laidTests := true, laidLooks := .later }
def BucketSharesUptoCardSaid : Prop := Claim7.holds Tryz.pinned (.plain (OpenSpec.upto bucketSharesSpec)) bucketSharesUptoCard

/-- THE SECOND FORM's CARD OF 'gunwalelaw16.BucketEncodes'. -/
def bucketEncodesUptoCard : Claim7 := { stood := { row := bucketEncodesUptoRow, standIns := [], harness := (true, "7c87254894bdbbae9c5e57ef403886e007e11be8e5bb3346b0378ccc105017fd"), looks := false }, kinds := [], alts := [], laidByText := true, laidKinds := [.data, .pinned], laidTests := true, laidLooks := .later }
def BucketEncodesUptoCardSaid : Prop := Claim7.holds Tryz.pinned (.plain (OpenSpec.upto bucketEncodesSpec)) bucketEncodesUptoCard

/-- THE SECOND FORM's CARD OF 'gunwalelaw16.BucketBack'. -/
def bucketBackUptoCard : Claim7 := { stood := { row := bucketBackUptoRow, standIns := [], harness := (true, "7c87254894bdbbae9c5e57ef403886e007e11be8e5bb3346b0378ccc105017fd"), looks := false }, kinds := [], alts := [], laidByText := true, laidKinds := [.data, .pinned], laidTests := true, laidLooks := .later }
def BucketBackUptoCardSaid : Prop := Claim7.holds Tryz.pinned (.plain (OpenSpec.upto bucketBackSpec)) bucketBackUptoCard

/-- THE SECOND FORM's CARD OF 'gunwalelaw24.PacketWrites'. -/
def packetWritesUptoCard : Claim7 := { stood := { row := packetWritesUptoRow, standIns := [], harness := (true, "7c87254894bdbbae9c5e57ef403886e007e11be8e5bb3346b0378ccc105017fd"), looks := false }, kinds := [], alts := [], laidByText := true, laidKinds := [.data, .pinned], laidTests := true, laidLooks := .later }
def PacketWritesUptoCardSaid : Prop := Claim7.holds Tryz.pinned (.plain (OpenSpec.upto packetWritesSpec)) packetWritesUptoCard

/-- THE SECOND FORM's CARD OF 'gunwalelaw24.PacketReads'. -/
def packetReadsUptoCard : Claim7 := { stood := { row := packetReadsUptoRow, standIns := [], harness := (true, "7c87254894bdbbae9c5e57ef403886e007e11be8e5bb3346b0378ccc105017fd"), looks := false }, kinds := [], alts := [], laidByText := true, laidKinds := [.data, .pinned], laidTests := true, laidLooks := .later }
def PacketReadsUptoCardSaid : Prop := Claim7.holds Tryz.pinned (.plain (OpenSpec.upto packetReadsSpec)) packetReadsUptoCard

/-- THE SECOND FORM's CARD OF 'gunwalelaw24.PacketBack'. -/
def packetBackUptoCard : Claim7 := { stood := { row := packetBackUptoRow, standIns := [], harness := (true, "7c87254894bdbbae9c5e57ef403886e007e11be8e5bb3346b0378ccc105017fd"), looks := false }, kinds := [], alts := [], laidByText := true, laidKinds := [.data, .pinned], laidTests := true, laidLooks := .later }
def PacketBackUptoCardSaid : Prop := Claim7.holds Tryz.pinned (.plain (OpenSpec.upto packetBackSpec)) packetBackUptoCard
end Rows
end Go.Proofs.YtbenhegdnaoalaaGreatDoor
