/-
  NARROWER THAN 'FOR EVERY INPUT', by the rows' own cells (each row's printed sentence says how): TallyWrites: laid · TallyReads: laid · TallyBack: laid · BucketDecodes: laid · BucketChooses: laid · BucketShares: laid · BucketEncodes: laid · BucketBack: laid · PacketWrites: laid · PacketReads: laid · PacketBack: laid.
  DERIVED. THE GIVEN ROWS OF THIS SEAT. 11 by the template 'for every input the law returns true; each argument reads behind the call as it read before'; 0 by the template 'total and deterministic' (their statements: YtbenhegdnaoalaaGreatDoorTotals.lean).
  GIVEN WITH THE SEED: the statements are not yours to turn. If you find one false, say at which input.
  Laid BY PROGRAM, IN A SANDBOX (cutbox-rows.mjs): the forced cells as the released guide's own fill.sh prints them over the translation 2c574598aa54ceb8… (all of the seat's roots in one cut). By AI agents, Wed Nov 11 2026. No macro, syntax, notation, axiom, sorry.
-/
import Derived.Test.YtbenhegdnaoalaaGreatDoorChecked
import GoSem.PinnedTables
import GoSem.Claim
import GoSem.ClaimJoined
import GoSem.ClaimMapViews
import Derived.JoinedTies
import Derived.KernelRfl
namespace Go.Proofs.YtbenhegdnaoalaaGreatDoor
/- THE CELL 'sum', in the pinned program and in every row, IS THE sha256 OF THE DUMP (.gsa) THAT YtbenhegdnaoalaaGreatDoorProg.lean LOADS. Nothing in Lean hashes anything: it is a label: what it is worth is what the hold of that sum in a sandbox is worth. -/
noncomputable def Tryz.pinned : Pinned := { name := "ytbenhegdnaoalaagreatdoor", sum := "2c574598aa54ceb8d37609d8d365e9348d4b203d219d949c4925aa4b90aee4c2", checked := Tryz.checked }
namespace Rows
def none {H : Type} : Left H := { results := [], args := [] }

/- WHAT THE LISTED PACKAGE-LEVEL VARIABLES READ AS WHEN THE CALL BEGINS. Each datum BY PROGRAM (the guide's laid-datum.mjs) off the statement by which the dump's own 'gosem.cut.vars' lays the variable. In a bare row this is a premise. The card (YtbenhegdnaoalaaGreatDoorCards.lean) ties it to the program's text. -/
def laid_unicode_utf8_acceptRanges {H : Type} : DataW H := .agg [.agg [.lit (.int .u8 128), .lit (.int .u8 191)], .agg [.lit (.int .u8 160), .lit (.int .u8 191)], .agg [.lit (.int .u8 128), .lit (.int .u8 159)], .agg [.lit (.int .u8 144), .lit (.int .u8 191)], .agg [.lit (.int .u8 128), .lit (.int .u8 143)], .agg [.lit (.int .u8 0), .lit (.int .u8 0)], .agg [.lit (.int .u8 0), .lit (.int .u8 0)], .agg [.lit (.int .u8 0), .lit (.int .u8 0)], .agg [.lit (.int .u8 0), .lit (.int .u8 0)], .agg [.lit (.int .u8 0), .lit (.int .u8 0)], .agg [.lit (.int .u8 0), .lit (.int .u8 0)], .agg [.lit (.int .u8 0), .lit (.int .u8 0)], .agg [.lit (.int .u8 0), .lit (.int .u8 0)], .agg [.lit (.int .u8 0), .lit (.int .u8 0)], .agg [.lit (.int .u8 0), .lit (.int .u8 0)], .agg [.lit (.int .u8 0), .lit (.int .u8 0)]]
/-- One of Go's own tables, pinned by name: the form's constant. -/
def laid_unicode_utf8_first : DataW Unit := Go.Pinned.utf8First

/-- 'gunwalelaw27.TallyWrites': WHATEVER THE INPUT: true; the input reads as it did. -/
def tallyWritesSpec : ChangeSpec := { name := "tallyWrites", fn := fun _ => fun
  | [d1, d2, d3] => { results := [.lit (.bool true)], args := [d1, d2, d3] }
  | _ => none }
def tallyWritesRow : OpenClaim := { program := "ytbenhegdnaoalaagreatdoor", sum := "2c574598aa54ceb8d37609d8d365e9348d4b203d219d949c4925aa4b90aee4c2", func := "gunwale/gunwalelaw27.TallyWrites", spec := "tallyWrites", inPlace := ["internal/bytealg.IndexByte", "internal/bytealg.Index"], unfollowed := true, recurses := true, named := ["internal/bytealg.MaxLen", "unicode/utf8.first", "unicode/utf8.acceptRanges"], apart := false, laid := [("unicode/utf8.acceptRanges", laid_unicode_utf8_acceptRanges), ("unicode/utf8.first", laid_unicode_utf8_first)] }
def TallyWritesSaid : Prop := tallyWritesRow.holds Tryz.pinned (OpenSpec.ofChange tallyWritesSpec)

/-- ITS FALSE NEIGHBOUR: 'it returns false'. Refute it at one input. -/
def tallyWritesWrong : ChangeSpec := { name := "tallyWrites", fn := fun _ => fun
  | [d1, d2, d3] => { results := [.lit (.bool false)], args := [d1, d2, d3] }
  | _ => none }
def TallyWritesWrongFalsely : Prop := tallyWritesRow.holds Tryz.pinned (OpenSpec.ofChange tallyWritesWrong)

/-- 'gunwalelaw27.TallyReads': WHATEVER THE INPUT: true; the input reads as it did. -/
def tallyReadsSpec : ChangeSpec := { name := "tallyReads", fn := fun _ => fun
  | [d1, d2, d3] => { results := [.lit (.bool true)], args := [d1, d2, d3] }
  | _ => none }
def tallyReadsRow : OpenClaim := { program := "ytbenhegdnaoalaagreatdoor", sum := "2c574598aa54ceb8d37609d8d365e9348d4b203d219d949c4925aa4b90aee4c2", func := "gunwale/gunwalelaw27.TallyReads", spec := "tallyReads", inPlace := ["internal/bytealg.IndexByte", "internal/bytealg.Index"], unfollowed := true, recurses := true, named := ["internal/bytealg.MaxLen", "unicode/utf8.first", "unicode/utf8.acceptRanges"], apart := false, laid := [("unicode/utf8.acceptRanges", laid_unicode_utf8_acceptRanges), ("unicode/utf8.first", laid_unicode_utf8_first)] }
def TallyReadsSaid : Prop := tallyReadsRow.holds Tryz.pinned (OpenSpec.ofChange tallyReadsSpec)

/-- ITS FALSE NEIGHBOUR: 'it returns false'. Refute it at one input. -/
def tallyReadsWrong : ChangeSpec := { name := "tallyReads", fn := fun _ => fun
  | [d1, d2, d3] => { results := [.lit (.bool false)], args := [d1, d2, d3] }
  | _ => none }
def TallyReadsWrongFalsely : Prop := tallyReadsRow.holds Tryz.pinned (OpenSpec.ofChange tallyReadsWrong)

/-- 'gunwalelaw27.TallyBack': WHATEVER THE INPUT: true; the input reads as it did. -/
def tallyBackSpec : ChangeSpec := { name := "tallyBack", fn := fun _ => fun
  | [d1, d2, d3] => { results := [.lit (.bool true)], args := [d1, d2, d3] }
  | _ => none }
def tallyBackRow : OpenClaim := { program := "ytbenhegdnaoalaagreatdoor", sum := "2c574598aa54ceb8d37609d8d365e9348d4b203d219d949c4925aa4b90aee4c2", func := "gunwale/gunwalelaw27.TallyBack", spec := "tallyBack", inPlace := ["internal/bytealg.IndexByte", "internal/bytealg.Index"], unfollowed := true, recurses := true, named := ["internal/bytealg.MaxLen", "unicode/utf8.first", "unicode/utf8.acceptRanges"], apart := false, laid := [("unicode/utf8.acceptRanges", laid_unicode_utf8_acceptRanges), ("unicode/utf8.first", laid_unicode_utf8_first)] }
def TallyBackSaid : Prop := tallyBackRow.holds Tryz.pinned (OpenSpec.ofChange tallyBackSpec)

/-- ITS FALSE NEIGHBOUR: 'it returns false'. Refute it at one input. -/
def tallyBackWrong : ChangeSpec := { name := "tallyBack", fn := fun _ => fun
  | [d1, d2, d3] => { results := [.lit (.bool false)], args := [d1, d2, d3] }
  | _ => none }
def TallyBackWrongFalsely : Prop := tallyBackRow.holds Tryz.pinned (OpenSpec.ofChange tallyBackWrong)

/-- 'gunwalelaw16.BucketDecodes': WHATEVER THE INPUT: true; the input reads as it did. -/
def bucketDecodesSpec : ChangeSpec := { name := "bucketDecodes", fn := fun _ => fun
  | [d1, d2] => { results := [.lit (.bool true)], args := [d1, d2] }
  | _ => none }
def bucketDecodesRow : OpenClaim := { program := "ytbenhegdnaoalaagreatdoor", sum := "2c574598aa54ceb8d37609d8d365e9348d4b203d219d949c4925aa4b90aee4c2", func := "gunwale/gunwalelaw16.BucketDecodes", spec := "bucketDecodes", unfollowed := true, recurses := true, named := ["unicode/utf8.first", "unicode/utf8.acceptRanges"], apart := false, laid := [("unicode/utf8.acceptRanges", laid_unicode_utf8_acceptRanges), ("unicode/utf8.first", laid_unicode_utf8_first)] }
def BucketDecodesSaid : Prop := bucketDecodesRow.holds Tryz.pinned (OpenSpec.ofChange bucketDecodesSpec)

/-- ITS FALSE NEIGHBOUR: 'it returns false'. Refute it at one input. -/
def bucketDecodesWrong : ChangeSpec := { name := "bucketDecodes", fn := fun _ => fun
  | [d1, d2] => { results := [.lit (.bool false)], args := [d1, d2] }
  | _ => none }
def BucketDecodesWrongFalsely : Prop := bucketDecodesRow.holds Tryz.pinned (OpenSpec.ofChange bucketDecodesWrong)

/-- 'gunwalelaw16.BucketChooses': WHATEVER THE INPUT: true; the input reads as it did. -/
def bucketChoosesSpec : ChangeSpec := { name := "bucketChooses", fn := fun _ => fun
  | [d1, d2] => { results := [.lit (.bool true)], args := [d1, d2] }
  | _ => none }
def bucketChoosesRow : OpenClaim := { program := "ytbenhegdnaoalaagreatdoor", sum := "2c574598aa54ceb8d37609d8d365e9348d4b203d219d949c4925aa4b90aee4c2", func := "gunwale/gunwalelaw16.BucketChooses", spec := "bucketChooses", unfollowed := true, recurses := true, named := ["unicode/utf8.first", "unicode/utf8.acceptRanges"], apart := false, laid := [("unicode/utf8.acceptRanges", laid_unicode_utf8_acceptRanges), ("unicode/utf8.first", laid_unicode_utf8_first)] }
def BucketChoosesSaid : Prop := bucketChoosesRow.holds Tryz.pinned (OpenSpec.ofChange bucketChoosesSpec)

/-- ITS FALSE NEIGHBOUR: 'it returns false'. Refute it at one input. -/
def bucketChoosesWrong : ChangeSpec := { name := "bucketChooses", fn := fun _ => fun
  | [d1, d2] => { results := [.lit (.bool false)], args := [d1, d2] }
  | _ => none }
def BucketChoosesWrongFalsely : Prop := bucketChoosesRow.holds Tryz.pinned (OpenSpec.ofChange bucketChoosesWrong)

/-- 'gunwalelaw16.BucketShares': WHATEVER THE INPUT: true; the input reads as it did. -/
def bucketSharesSpec : ChangeSpec := { name := "bucketShares", fn := fun _ => fun
  | [d1, d2] => { results := [.lit (.bool true)], args := [d1, d2] }
  | _ => none }
def bucketSharesRow : OpenClaim := { program := "ytbenhegdnaoalaagreatdoor", sum := "2c574598aa54ceb8d37609d8d365e9348d4b203d219d949c4925aa4b90aee4c2", func := "gunwale/gunwalelaw16.BucketShares", spec := "bucketShares", unfollowed := true, recurses := true, named := ["unicode/utf8.first", "unicode/utf8.acceptRanges"], apart := false, laid := [("unicode/utf8.acceptRanges", laid_unicode_utf8_acceptRanges), ("unicode/utf8.first", laid_unicode_utf8_first)] }
def BucketSharesSaid : Prop := bucketSharesRow.holds Tryz.pinned (OpenSpec.ofChange bucketSharesSpec)

/-- ITS FALSE NEIGHBOUR: 'it returns false'. Refute it at one input. -/
def bucketSharesWrong : ChangeSpec := { name := "bucketShares", fn := fun _ => fun
  | [d1, d2] => { results := [.lit (.bool false)], args := [d1, d2] }
  | _ => none }
def BucketSharesWrongFalsely : Prop := bucketSharesRow.holds Tryz.pinned (OpenSpec.ofChange bucketSharesWrong)

/-- 'gunwalelaw16.BucketEncodes': WHATEVER THE INPUT: true; the input reads as it did. -/
def bucketEncodesSpec : ChangeSpec := { name := "bucketEncodes", fn := fun _ => fun
  | [d1, d2] => { results := [.lit (.bool true)], args := [d1, d2] }
  | _ => none }
def bucketEncodesRow : OpenClaim := { program := "ytbenhegdnaoalaagreatdoor", sum := "2c574598aa54ceb8d37609d8d365e9348d4b203d219d949c4925aa4b90aee4c2", func := "gunwale/gunwalelaw16.BucketEncodes", spec := "bucketEncodes", unfollowed := true, recurses := true, named := ["unicode/utf8.first", "unicode/utf8.acceptRanges"], apart := false, laid := [("unicode/utf8.acceptRanges", laid_unicode_utf8_acceptRanges), ("unicode/utf8.first", laid_unicode_utf8_first)] }
def BucketEncodesSaid : Prop := bucketEncodesRow.holds Tryz.pinned (OpenSpec.ofChange bucketEncodesSpec)

/-- ITS FALSE NEIGHBOUR: 'it returns false'. Refute it at one input. -/
def bucketEncodesWrong : ChangeSpec := { name := "bucketEncodes", fn := fun _ => fun
  | [d1, d2] => { results := [.lit (.bool false)], args := [d1, d2] }
  | _ => none }
def BucketEncodesWrongFalsely : Prop := bucketEncodesRow.holds Tryz.pinned (OpenSpec.ofChange bucketEncodesWrong)

/-- 'gunwalelaw16.BucketBack': WHATEVER THE INPUT: true; the input reads as it did. -/
def bucketBackSpec : ChangeSpec := { name := "bucketBack", fn := fun _ => fun
  | [d1, d2, d3] => { results := [.lit (.bool true)], args := [d1, d2, d3] }
  | _ => none }
def bucketBackRow : OpenClaim := { program := "ytbenhegdnaoalaagreatdoor", sum := "2c574598aa54ceb8d37609d8d365e9348d4b203d219d949c4925aa4b90aee4c2", func := "gunwale/gunwalelaw16.BucketBack", spec := "bucketBack", unfollowed := true, recurses := true, named := ["unicode/utf8.first", "unicode/utf8.acceptRanges"], apart := false, laid := [("unicode/utf8.acceptRanges", laid_unicode_utf8_acceptRanges), ("unicode/utf8.first", laid_unicode_utf8_first)] }
def BucketBackSaid : Prop := bucketBackRow.holds Tryz.pinned (OpenSpec.ofChange bucketBackSpec)

/-- ITS FALSE NEIGHBOUR: 'it returns false'. Refute it at one input. -/
def bucketBackWrong : ChangeSpec := { name := "bucketBack", fn := fun _ => fun
  | [d1, d2, d3] => { results := [.lit (.bool false)], args := [d1, d2, d3] }
  | _ => none }
def BucketBackWrongFalsely : Prop := bucketBackRow.holds Tryz.pinned (OpenSpec.ofChange bucketBackWrong)

/-- 'gunwalelaw24.PacketWrites': WHATEVER THE INPUT: true; the input reads as it did. -/
def packetWritesSpec : ChangeSpec := { name := "packetWrites", fn := fun _ => fun
  | [d1, d2] => { results := [.lit (.bool true)], args := [d1, d2] }
  | _ => none }
def packetWritesRow : OpenClaim := { program := "ytbenhegdnaoalaagreatdoor", sum := "2c574598aa54ceb8d37609d8d365e9348d4b203d219d949c4925aa4b90aee4c2", func := "gunwale/gunwalelaw24.PacketWrites", spec := "packetWrites", unfollowed := true, recurses := true, named := ["unicode/utf8.first", "unicode/utf8.acceptRanges"], apart := false, laid := [("unicode/utf8.acceptRanges", laid_unicode_utf8_acceptRanges), ("unicode/utf8.first", laid_unicode_utf8_first)] }
def PacketWritesSaid : Prop := packetWritesRow.holds Tryz.pinned (OpenSpec.ofChange packetWritesSpec)

/-- ITS FALSE NEIGHBOUR: 'it returns false'. Refute it at one input. -/
def packetWritesWrong : ChangeSpec := { name := "packetWrites", fn := fun _ => fun
  | [d1, d2] => { results := [.lit (.bool false)], args := [d1, d2] }
  | _ => none }
def PacketWritesWrongFalsely : Prop := packetWritesRow.holds Tryz.pinned (OpenSpec.ofChange packetWritesWrong)

/-- 'gunwalelaw24.PacketReads': WHATEVER THE INPUT: true; the input reads as it did. -/
def packetReadsSpec : ChangeSpec := { name := "packetReads", fn := fun _ => fun
  | [d1, d2] => { results := [.lit (.bool true)], args := [d1, d2] }
  | _ => none }
def packetReadsRow : OpenClaim := { program := "ytbenhegdnaoalaagreatdoor", sum := "2c574598aa54ceb8d37609d8d365e9348d4b203d219d949c4925aa4b90aee4c2", func := "gunwale/gunwalelaw24.PacketReads", spec := "packetReads", unfollowed := true, recurses := true, named := ["unicode/utf8.first", "unicode/utf8.acceptRanges"], apart := false, laid := [("unicode/utf8.acceptRanges", laid_unicode_utf8_acceptRanges), ("unicode/utf8.first", laid_unicode_utf8_first)] }
def PacketReadsSaid : Prop := packetReadsRow.holds Tryz.pinned (OpenSpec.ofChange packetReadsSpec)

/-- ITS FALSE NEIGHBOUR: 'it returns false'. Refute it at one input. -/
def packetReadsWrong : ChangeSpec := { name := "packetReads", fn := fun _ => fun
  | [d1, d2] => { results := [.lit (.bool false)], args := [d1, d2] }
  | _ => none }
def PacketReadsWrongFalsely : Prop := packetReadsRow.holds Tryz.pinned (OpenSpec.ofChange packetReadsWrong)

/-- 'gunwalelaw24.PacketBack': WHATEVER THE INPUT: true; the input reads as it did. -/
def packetBackSpec : ChangeSpec := { name := "packetBack", fn := fun _ => fun
  | [d1, d2, d3] => { results := [.lit (.bool true)], args := [d1, d2, d3] }
  | _ => none }
def packetBackRow : OpenClaim := { program := "ytbenhegdnaoalaagreatdoor", sum := "2c574598aa54ceb8d37609d8d365e9348d4b203d219d949c4925aa4b90aee4c2", func := "gunwale/gunwalelaw24.PacketBack", spec := "packetBack", unfollowed := true, recurses := true, named := ["unicode/utf8.first", "unicode/utf8.acceptRanges"], apart := false, laid := [("unicode/utf8.acceptRanges", laid_unicode_utf8_acceptRanges), ("unicode/utf8.first", laid_unicode_utf8_first)] }
def PacketBackSaid : Prop := packetBackRow.holds Tryz.pinned (OpenSpec.ofChange packetBackSpec)

/-- ITS FALSE NEIGHBOUR: 'it returns false'. Refute it at one input. -/
def packetBackWrong : ChangeSpec := { name := "packetBack", fn := fun _ => fun
  | [d1, d2, d3] => { results := [.lit (.bool false)], args := [d1, d2, d3] }
  | _ => none }
def PacketBackWrongFalsely : Prop := packetBackRow.holds Tryz.pinned (OpenSpec.ofChange packetBackWrong)

/- THE SECOND FORM. 'bulk': how many values and letters a reading holds, each counted each time it is reached (what is shared counts as often as it is met; a slice's spare places count too). A statement '..UptoSaid' is the law's where the arguments, and the package variables that the reading takes, are together of bulk at most 1048576: NARROWER than '..Said'. Prove '..Said' where nothing that the law and all that it calls make is longer than what came in: it says more and counts as full. Else prove '..UptoSaid'. A law counts once. -/
mutual
def uptoBulk {H : Type} : DataW H → Nat
  | .lit (.string bytes) => bytes.length + 1
  | .lit _ => 1
  | .nil => 1
  | .ptr d => uptoBulk d + 1
  | .slice elems spare => uptoBulkAll elems + uptoBulkAll spare + 1
  | .agg parts => uptoBulkAll parts + 1
  | .iface _ d => uptoBulk d + 1
  | .map entries => uptoBulkEntries entries + 1
  | .held _ => 1
def uptoBulkAll {H : Type} : List (DataW H) → Nat
  | [] => 0
  | d :: r => uptoBulk d + uptoBulkAll r
def uptoBulkEntries {H : Type} : List (Lit × DataW H) → Nat
  | [] => 0
  | x :: r => uptoBulkEntry x + uptoBulkEntries r
def uptoBulkEntry {H : Type} : Lit × DataW H → Nat
  | (.string bytes, d) => bytes.length + uptoBulk d + 1
  | (_, d) => uptoBulk d + 1
 end
def uptoSmall : (H : Type) → List (DataW H) → Bool := fun _ ds => decide (uptoBulkAll ds ≤ 1048576)
def OpenSpec.upto (s : _root_.Go.ChangeSpec) : _root_.Go.OpenSpec := { _root_.Go.OpenSpec.ofChange s with cond := some uptoSmall }

/-- 'gunwalelaw27.TallyWrites', WHERE WHAT IT READS IS OF BULK AT MOST 1048576: true; the input reads as it did. -/
def tallyWritesUptoRow : OpenClaim := { program := "ytbenhegdnaoalaagreatdoor", sum := "2c574598aa54ceb8d37609d8d365e9348d4b203d219d949c4925aa4b90aee4c2", func := "gunwale/gunwalelaw27.TallyWrites", spec := "tallyWrites", inPlace := ["internal/bytealg.IndexByte", "internal/bytealg.Index"], unfollowed := true, recurses := true, named := ["internal/bytealg.MaxLen", "unicode/utf8.first", "unicode/utf8.acceptRanges"], apart := false, laid := [("unicode/utf8.acceptRanges", laid_unicode_utf8_acceptRanges), ("unicode/utf8.first", laid_unicode_utf8_first)], narrowed := true }
def TallyWritesUptoSaid : Prop := tallyWritesUptoRow.holds Tryz.pinned (OpenSpec.upto tallyWritesSpec)

/-- 'gunwalelaw27.TallyReads', WHERE WHAT IT READS IS OF BULK AT MOST 1048576: true; the input reads as it did. -/
def tallyReadsUptoRow : OpenClaim := { program := "ytbenhegdnaoalaagreatdoor", sum := "2c574598aa54ceb8d37609d8d365e9348d4b203d219d949c4925aa4b90aee4c2", func := "gunwale/gunwalelaw27.TallyReads", spec := "tallyReads", inPlace := ["internal/bytealg.IndexByte", "internal/bytealg.Index"], unfollowed := true, recurses := true, named := ["internal/bytealg.MaxLen", "unicode/utf8.first", "unicode/utf8.acceptRanges"], apart := false, laid := [("unicode/utf8.acceptRanges", laid_unicode_utf8_acceptRanges), ("unicode/utf8.first", laid_unicode_utf8_first)], narrowed := true }
def TallyReadsUptoSaid : Prop := tallyReadsUptoRow.holds Tryz.pinned (OpenSpec.upto tallyReadsSpec)

/-- 'gunwalelaw27.TallyBack', WHERE WHAT IT READS IS OF BULK AT MOST 1048576: true; the input reads as it did. -/
def tallyBackUptoRow : OpenClaim := { program := "ytbenhegdnaoalaagreatdoor", sum := "2c574598aa54ceb8d37609d8d365e9348d4b203d219d949c4925aa4b90aee4c2", func := "gunwale/gunwalelaw27.TallyBack", spec := "tallyBack", inPlace := ["internal/bytealg.IndexByte", "internal/bytealg.Index"], unfollowed := true, recurses := true, named := ["internal/bytealg.MaxLen", "unicode/utf8.first", "unicode/utf8.acceptRanges"], apart := false, laid := [("unicode/utf8.acceptRanges", laid_unicode_utf8_acceptRanges), ("unicode/utf8.first", laid_unicode_utf8_first)], narrowed := true }
def TallyBackUptoSaid : Prop := tallyBackUptoRow.holds Tryz.pinned (OpenSpec.upto tallyBackSpec)

/-- 'gunwalelaw16.BucketDecodes', WHERE WHAT IT READS IS OF BULK AT MOST 1048576: true; the input reads as it did. -/
def bucketDecodesUptoRow : OpenClaim := { program := "ytbenhegdnaoalaagreatdoor", sum := "2c574598aa54ceb8d37609d8d365e9348d4b203d219d949c4925aa4b90aee4c2", func := "gunwale/gunwalelaw16.BucketDecodes", spec := "bucketDecodes", unfollowed := true, recurses := true, named := ["unicode/utf8.first", "unicode/utf8.acceptRanges"], apart := false, laid := [("unicode/utf8.acceptRanges", laid_unicode_utf8_acceptRanges), ("unicode/utf8.first", laid_unicode_utf8_first)], narrowed := true }
def BucketDecodesUptoSaid : Prop := bucketDecodesUptoRow.holds Tryz.pinned (OpenSpec.upto bucketDecodesSpec)

/-- 'gunwalelaw16.BucketChooses', WHERE WHAT IT READS IS OF BULK AT MOST 1048576: true; the input reads as it did. -/
def bucketChoosesUptoRow : OpenClaim := { program := "ytbenhegdnaoalaagreatdoor", sum := "2c574598aa54ceb8d37609d8d365e9348d4b203d219d949c4925aa4b90aee4c2", func := "gunwale/gunwalelaw16.BucketChooses", spec := "bucketChooses", unfollowed := true, recurses := true, named := ["unicode/utf8.first", "unicode/utf8.acceptRanges"], apart := false, laid := [("unicode/utf8.acceptRanges", laid_unicode_utf8_acceptRanges), ("unicode/utf8.first", laid_unicode_utf8_first)], narrowed := true }
def BucketChoosesUptoSaid : Prop := bucketChoosesUptoRow.holds Tryz.pinned (OpenSpec.upto bucketChoosesSpec)

/-- 'gunwalelaw16.BucketShares', WHERE WHAT IT READS IS OF BULK AT MOST 1048576: true; the input reads as it did. -/
def bucketSharesUptoRow : OpenClaim := { program := "ytbenhegdnaoalaagreatdoor", sum := "2c574598aa54ceb8d37609d8d365e9348d4b203d219d949c4925aa4b90aee4c2", func := "gunwale/gunwalelaw16.BucketShares", spec := "bucketShares", unfollowed := true, recurses := true, named := ["unicode/utf8.first", "unicode/utf8.acceptRanges"], apart := false, laid := [("unicode/utf8.acceptRanges", laid_unicode_utf8_acceptRanges), ("unicode/utf8.first", laid_unicode_utf8_first)], narrowed := true }
def BucketSharesUptoSaid : Prop := bucketSharesUptoRow.holds Tryz.pinned (OpenSpec.upto bucketSharesSpec)

/-- 'gunwalelaw16.BucketEncodes', WHERE WHAT IT READS IS OF BULK AT MOST 1048576: true; the input reads as it did. -/
def bucketEncodesUptoRow : OpenClaim := { program := "ytbenhegdnaoalaagreatdoor", sum := "2c574598aa54ceb8d37609d8d365e9348d4b203d219d949c4925aa4b90aee4c2", func := "gunwale/gunwalelaw16.BucketEncodes", spec := "bucketEncodes", unfollowed := true, recurses := true, named := ["unicode/utf8.first", "unicode/utf8.acceptRanges"], apart := false, laid := [("unicode/utf8.acceptRanges", laid_unicode_utf8_acceptRanges), ("unicode/utf8.first", laid_unicode_utf8_first)], narrowed := true }
def BucketEncodesUptoSaid : Prop := bucketEncodesUptoRow.holds Tryz.pinned (OpenSpec.upto bucketEncodesSpec)

/-- 'gunwalelaw16.BucketBack', WHERE WHAT IT READS IS OF BULK AT MOST 1048576: true; the input reads as it did. -/
def bucketBackUptoRow : OpenClaim := { program := "ytbenhegdnaoalaagreatdoor", sum := "2c574598aa54ceb8d37609d8d365e9348d4b203d219d949c4925aa4b90aee4c2", func := "gunwale/gunwalelaw16.BucketBack", spec := "bucketBack", unfollowed := true, recurses := true, named := ["unicode/utf8.first", "unicode/utf8.acceptRanges"], apart := false, laid := [("unicode/utf8.acceptRanges", laid_unicode_utf8_acceptRanges), ("unicode/utf8.first", laid_unicode_utf8_first)], narrowed := true }
def BucketBackUptoSaid : Prop := bucketBackUptoRow.holds Tryz.pinned (OpenSpec.upto bucketBackSpec)

/-- 'gunwalelaw24.PacketWrites', WHERE WHAT IT READS IS OF BULK AT MOST 1048576: true; the input reads as it did. -/
def packetWritesUptoRow : OpenClaim := { program := "ytbenhegdnaoalaagreatdoor", sum := "2c574598aa54ceb8d37609d8d365e9348d4b203d219d949c4925aa4b90aee4c2", func := "gunwale/gunwalelaw24.PacketWrites", spec := "packetWrites", unfollowed := true, recurses := true, named := ["unicode/utf8.first", "unicode/utf8.acceptRanges"], apart := false, laid := [("unicode/utf8.acceptRanges", laid_unicode_utf8_acceptRanges), ("unicode/utf8.first", laid_unicode_utf8_first)], narrowed := true }
def PacketWritesUptoSaid : Prop := packetWritesUptoRow.holds Tryz.pinned (OpenSpec.upto packetWritesSpec)

/-- 'gunwalelaw24.PacketReads', WHERE WHAT IT READS IS OF BULK AT MOST 1048576: true; the input reads as it did. -/
def packetReadsUptoRow : OpenClaim := { program := "ytbenhegdnaoalaagreatdoor", sum := "2c574598aa54ceb8d37609d8d365e9348d4b203d219d949c4925aa4b90aee4c2", func := "gunwale/gunwalelaw24.PacketReads", spec := "packetReads", unfollowed := true, recurses := true, named := ["unicode/utf8.first", "unicode/utf8.acceptRanges"], apart := false, laid := [("unicode/utf8.acceptRanges", laid_unicode_utf8_acceptRanges), ("unicode/utf8.first", laid_unicode_utf8_first)], narrowed := true }
def PacketReadsUptoSaid : Prop := packetReadsUptoRow.holds Tryz.pinned (OpenSpec.upto packetReadsSpec)

/-- 'gunwalelaw24.PacketBack', WHERE WHAT IT READS IS OF BULK AT MOST 1048576: true; the input reads as it did. -/
def packetBackUptoRow : OpenClaim := { program := "ytbenhegdnaoalaagreatdoor", sum := "2c574598aa54ceb8d37609d8d365e9348d4b203d219d949c4925aa4b90aee4c2", func := "gunwale/gunwalelaw24.PacketBack", spec := "packetBack", unfollowed := true, recurses := true, named := ["unicode/utf8.first", "unicode/utf8.acceptRanges"], apart := false, laid := [("unicode/utf8.acceptRanges", laid_unicode_utf8_acceptRanges), ("unicode/utf8.first", laid_unicode_utf8_first)], narrowed := true }
def PacketBackUptoSaid : Prop := packetBackUptoRow.holds Tryz.pinned (OpenSpec.upto packetBackSpec)

end Rows
end Go.Proofs.YtbenhegdnaoalaaGreatDoor
