/-
  NARROWER THAN 'FOR EVERY INPUT', by the rows' own cells (each row's printed sentence says how): FeatureDecodes: laid · FeatureLeads: laid · FeatureEncodes: laid · FeatureBack: laid.
  DERIVED. THE GIVEN ROWS OF THIS SEAT. 4 by the template 'for every input the law returns true; each argument reads behind the call as it read before'; 0 by the template 'total and deterministic' (their statements: YtppgebehmmldfaaGreatDoorTotals.lean).
  GIVEN WITH THE SEED: the statements are not yours to turn. If you find one false, say at which input.
  Laid BY PROGRAM, IN A SANDBOX (cutbox-rows.mjs): the forced cells as the released guide's own fill.sh prints them over the translation f605d4342da1df22… (all of the seat's roots in one cut). By AI agents, Wed Nov 11 2026. No macro, syntax, notation, axiom, sorry.
-/
import Derived.Test.YtppgebehmmldfaaGreatDoorChecked
import GoSem.PinnedTables
import GoSem.Claim
import GoSem.ClaimJoined
import GoSem.ClaimMapViews
import Derived.JoinedTies
import Derived.KernelRfl
namespace Go.Proofs.YtppgebehmmldfaaGreatDoor
/- THE CELL 'sum', in the pinned program and in every row, IS THE sha256 OF THE DUMP (.gsa) THAT YtppgebehmmldfaaGreatDoorProg.lean LOADS. Nothing in Lean hashes anything: it is a label: what it is worth is what the hold of that sum in a sandbox is worth. -/
noncomputable def Tryz.pinned : Pinned := { name := "ytppgebehmmldfaagreatdoor", sum := "f605d4342da1df2296abb93d3c7a4eaebd1205aaaab6008a4943821ba42a29b5", checked := Tryz.checked }
namespace Rows
def none {H : Type} : Left H := { results := [], args := [] }

/- WHAT THE LISTED PACKAGE-LEVEL VARIABLES READ AS WHEN THE CALL BEGINS. Each datum BY PROGRAM (the guide's laid-datum.mjs) off the statement by which the dump's own 'gosem.cut.vars' lays the variable. In a bare row this is a premise. The card (YtppgebehmmldfaaGreatDoorCards.lean) ties it to the program's text. -/
def laid_unicode_utf8_acceptRanges {H : Type} : DataW H := .agg [.agg [.lit (.int .u8 128), .lit (.int .u8 191)], .agg [.lit (.int .u8 160), .lit (.int .u8 191)], .agg [.lit (.int .u8 128), .lit (.int .u8 159)], .agg [.lit (.int .u8 144), .lit (.int .u8 191)], .agg [.lit (.int .u8 128), .lit (.int .u8 143)], .agg [.lit (.int .u8 0), .lit (.int .u8 0)], .agg [.lit (.int .u8 0), .lit (.int .u8 0)], .agg [.lit (.int .u8 0), .lit (.int .u8 0)], .agg [.lit (.int .u8 0), .lit (.int .u8 0)], .agg [.lit (.int .u8 0), .lit (.int .u8 0)], .agg [.lit (.int .u8 0), .lit (.int .u8 0)], .agg [.lit (.int .u8 0), .lit (.int .u8 0)], .agg [.lit (.int .u8 0), .lit (.int .u8 0)], .agg [.lit (.int .u8 0), .lit (.int .u8 0)], .agg [.lit (.int .u8 0), .lit (.int .u8 0)], .agg [.lit (.int .u8 0), .lit (.int .u8 0)]]
/-- One of Go's own tables, pinned by name: the form's constant. -/
def laid_unicode_utf8_first : DataW Unit := Go.Pinned.utf8First

/-- 'gunwalelaw20.FeatureDecodes': WHATEVER THE INPUT: true; the input reads as it did. -/
def featureDecodesSpec : ChangeSpec := { name := "featureDecodes", fn := fun _ => fun
  | [d1, d2] => { results := [.lit (.bool true)], args := [d1, d2] }
  | _ => none }
def featureDecodesRow : OpenClaim := { program := "ytppgebehmmldfaagreatdoor", sum := "f605d4342da1df2296abb93d3c7a4eaebd1205aaaab6008a4943821ba42a29b5", func := "gunwale/gunwalelaw20.FeatureDecodes", spec := "featureDecodes", inPlace := ["internal/bytealg.IndexByte", "internal/bytealg.Index"], unfollowed := true, recurses := true, named := ["internal/bytealg.MaxLen", "unicode/utf8.first", "unicode/utf8.acceptRanges"], apart := false, laid := [("unicode/utf8.acceptRanges", laid_unicode_utf8_acceptRanges), ("unicode/utf8.first", laid_unicode_utf8_first)] }
def FeatureDecodesSaid : Prop := featureDecodesRow.holds Tryz.pinned (OpenSpec.ofChange featureDecodesSpec)

/-- ITS FALSE NEIGHBOUR: 'it returns false'. Refute it at one input. -/
def featureDecodesWrong : ChangeSpec := { name := "featureDecodes", fn := fun _ => fun
  | [d1, d2] => { results := [.lit (.bool false)], args := [d1, d2] }
  | _ => none }
def FeatureDecodesWrongFalsely : Prop := featureDecodesRow.holds Tryz.pinned (OpenSpec.ofChange featureDecodesWrong)

/-- 'gunwalelaw20.FeatureLeads': WHATEVER THE INPUT: true; the input reads as it did. -/
def featureLeadsSpec : ChangeSpec := { name := "featureLeads", fn := fun _ => fun
  | [d] => { results := [.lit (.bool true)], args := [d] }
  | _ => none }
def featureLeadsRow : OpenClaim := { program := "ytppgebehmmldfaagreatdoor", sum := "f605d4342da1df2296abb93d3c7a4eaebd1205aaaab6008a4943821ba42a29b5", func := "gunwale/gunwalelaw20.FeatureLeads", spec := "featureLeads", inPlace := ["internal/bytealg.IndexByte", "internal/bytealg.Index"], unfollowed := true, recurses := true, named := ["internal/bytealg.MaxLen", "unicode/utf8.first", "unicode/utf8.acceptRanges"], apart := false, laid := [("unicode/utf8.acceptRanges", laid_unicode_utf8_acceptRanges), ("unicode/utf8.first", laid_unicode_utf8_first)] }
def FeatureLeadsSaid : Prop := featureLeadsRow.holds Tryz.pinned (OpenSpec.ofChange featureLeadsSpec)

/-- ITS FALSE NEIGHBOUR: 'it returns false'. Refute it at one input. -/
def featureLeadsWrong : ChangeSpec := { name := "featureLeads", fn := fun _ => fun
  | [d] => { results := [.lit (.bool false)], args := [d] }
  | _ => none }
def FeatureLeadsWrongFalsely : Prop := featureLeadsRow.holds Tryz.pinned (OpenSpec.ofChange featureLeadsWrong)

/-- 'gunwalelaw20.FeatureEncodes': WHATEVER THE INPUT: true; the input reads as it did. -/
def featureEncodesSpec : ChangeSpec := { name := "featureEncodes", fn := fun _ => fun
  | [d1, d2] => { results := [.lit (.bool true)], args := [d1, d2] }
  | _ => none }
def featureEncodesRow : OpenClaim := { program := "ytppgebehmmldfaagreatdoor", sum := "f605d4342da1df2296abb93d3c7a4eaebd1205aaaab6008a4943821ba42a29b5", func := "gunwale/gunwalelaw20.FeatureEncodes", spec := "featureEncodes", inPlace := ["internal/bytealg.IndexByte", "internal/bytealg.Index"], unfollowed := true, recurses := true, named := ["internal/bytealg.MaxLen", "unicode/utf8.first", "unicode/utf8.acceptRanges"], apart := false, laid := [("unicode/utf8.acceptRanges", laid_unicode_utf8_acceptRanges), ("unicode/utf8.first", laid_unicode_utf8_first)] }
def FeatureEncodesSaid : Prop := featureEncodesRow.holds Tryz.pinned (OpenSpec.ofChange featureEncodesSpec)

/-- ITS FALSE NEIGHBOUR: 'it returns false'. Refute it at one input. -/
def featureEncodesWrong : ChangeSpec := { name := "featureEncodes", fn := fun _ => fun
  | [d1, d2] => { results := [.lit (.bool false)], args := [d1, d2] }
  | _ => none }
def FeatureEncodesWrongFalsely : Prop := featureEncodesRow.holds Tryz.pinned (OpenSpec.ofChange featureEncodesWrong)

/-- 'gunwalelaw20.FeatureBack': WHATEVER THE INPUT: true; the input reads as it did. -/
def featureBackSpec : ChangeSpec := { name := "featureBack", fn := fun _ => fun
  | [d1, d2, d3] => { results := [.lit (.bool true)], args := [d1, d2, d3] }
  | _ => none }
def featureBackRow : OpenClaim := { program := "ytppgebehmmldfaagreatdoor", sum := "f605d4342da1df2296abb93d3c7a4eaebd1205aaaab6008a4943821ba42a29b5", func := "gunwale/gunwalelaw20.FeatureBack", spec := "featureBack", inPlace := ["internal/bytealg.IndexByte", "internal/bytealg.Index"], unfollowed := true, recurses := true, named := ["internal/bytealg.MaxLen", "unicode/utf8.first", "unicode/utf8.acceptRanges"], apart := false, laid := [("unicode/utf8.acceptRanges", laid_unicode_utf8_acceptRanges), ("unicode/utf8.first", laid_unicode_utf8_first)] }
def FeatureBackSaid : Prop := featureBackRow.holds Tryz.pinned (OpenSpec.ofChange featureBackSpec)

/-- ITS FALSE NEIGHBOUR: 'it returns false'. Refute it at one input. -/
def featureBackWrong : ChangeSpec := { name := "featureBack", fn := fun _ => fun
  | [d1, d2, d3] => { results := [.lit (.bool false)], args := [d1, d2, d3] }
  | _ => none }
def FeatureBackWrongFalsely : Prop := featureBackRow.holds Tryz.pinned (OpenSpec.ofChange featureBackWrong)

/- THE SECOND FORM. 'bulk': how many values and letters a reading holds, each counted each time it is reached (what is shared counts as often as it is met; a slice's spare places count too). A statement '..UptoSaid' is the law's where the arguments, and the package variables that the reading takes, are together of bulk at most 1048576: NARROWER than '..Said'. Prove '..Said' where nothing that the law and all that it calls make is longer than what came in: it says more and counts as full. Else prove '..UptoSaid'. A law counts once. -/
mutual
def uptoBulk {H : Type} : DataW H → Nat
  | .lit (.string bytes) => bytes.length + 1
  | .lit _ => 1
  | .nil => 1
  | .ptr d => uptoBulk d + 1
  | .slice elems spare => uptoBulkAll elems + uptoBulkAll spare + 1
  | .agg parts => uptoBulkAll parts + 1
  | .iface _ d => uptoBulk d + 1
  | .map entries => uptoBulkEntries entries + 1
  | .held _ => 1
def uptoBulkAll {H : Type} : List (DataW H) → Nat
  | [] => 0
  | d :: r => uptoBulk d + uptoBulkAll r
def uptoBulkEntries {H : Type} : List (Lit × DataW H) → Nat
  | [] => 0
  | x :: r => uptoBulkEntry x + uptoBulkEntries r
def uptoBulkEntry {H : Type} : Lit × DataW H → Nat
  | (.string bytes, d) => bytes.length + uptoBulk d + 1
  | (_, d) => uptoBulk d + 1
 end
def uptoSmall : (H : Type) → List (DataW H) → Bool := fun _ ds => decide (uptoBulkAll ds ≤ 1048576)
def OpenSpec.upto (s : _root_.Go.ChangeSpec) : _root_.Go.OpenSpec := { _root_.Go.OpenSpec.ofChange s with cond := some uptoSmall }

/-- 'gunwalelaw20.FeatureDecodes', WHERE WHAT IT READS IS OF BULK AT MOST 1048576: true; the input reads as it did. -/
def featureDecodesUptoRow : OpenClaim := { program := "ytppgebehmmldfaagreatdoor", sum := "f605d4342da1df2296abb93d3c7a4eaebd1205aaaab6008a4943821ba42a29b5", func := "gunwale/gunwalelaw20.FeatureDecodes", spec := "featureDecodes", inPlace := ["internal/bytealg.IndexByte", "internal/bytealg.Index"], unfollowed := true, recurses := true, named := ["internal/bytealg.MaxLen", "unicode/utf8.first", "unicode/utf8.acceptRanges"], apart := false, laid := [("unicode/utf8.acceptRanges", laid_unicode_utf8_acceptRanges), ("unicode/utf8.first", laid_unicode_utf8_first)], narrowed := true }
def FeatureDecodesUptoSaid : Prop := featureDecodesUptoRow.holds Tryz.pinned (OpenSpec.upto featureDecodesSpec)

/-- 'gunwalelaw20.FeatureLeads', WHERE WHAT IT READS IS OF BULK AT MOST 1048576: true; the input reads as it did. -/
def featureLeadsUptoRow : OpenClaim := { program := "ytppgebehmmldfaagreatdoor", sum := "f605d4342da1df2296abb93d3c7a4eaebd1205aaaab6008a4943821ba42a29b5", func := "gunwale/gunwalelaw20.FeatureLeads", spec := "featureLeads", inPlace := ["internal/bytealg.IndexByte", "internal/bytealg.Index"], unfollowed := true, recurses := true, named := ["internal/bytealg.MaxLen", "unicode/utf8.first", "unicode/utf8.acceptRanges"], apart := false, laid := [("unicode/utf8.acceptRanges", laid_unicode_utf8_acceptRanges), ("unicode/utf8.first", laid_unicode_utf8_first)], narrowed := true }
def FeatureLeadsUptoSaid : Prop := featureLeadsUptoRow.holds Tryz.pinned (OpenSpec.upto featureLeadsSpec)

/-- 'gunwalelaw20.FeatureEncodes', WHERE WHAT IT READS IS OF BULK AT MOST 1048576: true; the input reads as it did. -/
def featureEncodesUptoRow : OpenClaim := { program := "ytppgebehmmldfaagreatdoor", sum := "f605d4342da1df2296abb93d3c7a4eaebd1205aaaab6008a4943821ba42a29b5", func := "gunwale/gunwalelaw20.FeatureEncodes", spec := "featureEncodes", inPlace := ["internal/bytealg.IndexByte", "internal/bytealg.Index"], unfollowed := true, recurses := true, named := ["internal/bytealg.MaxLen", "unicode/utf8.first", "unicode/utf8.acceptRanges"], apart := false, laid := [("unicode/utf8.acceptRanges", laid_unicode_utf8_acceptRanges), ("unicode/utf8.first", laid_unicode_utf8_first)], narrowed := true }
def FeatureEncodesUptoSaid : Prop := featureEncodesUptoRow.holds Tryz.pinned (OpenSpec.upto featureEncodesSpec)

/-- 'gunwalelaw20.FeatureBack', WHERE WHAT IT READS IS OF BULK AT MOST 1048576: true; the input reads as it did. -/
def featureBackUptoRow : OpenClaim := { program := "ytppgebehmmldfaagreatdoor", sum := "f605d4342da1df2296abb93d3c7a4eaebd1205aaaab6008a4943821ba42a29b5", func := "gunwale/gunwalelaw20.FeatureBack", spec := "featureBack", inPlace := ["internal/bytealg.IndexByte", "internal/bytealg.Index"], unfollowed := true, recurses := true, named := ["internal/bytealg.MaxLen", "unicode/utf8.first", "unicode/utf8.acceptRanges"], apart := false, laid := [("unicode/utf8.acceptRanges", laid_unicode_utf8_acceptRanges), ("unicode/utf8.first", laid_unicode_utf8_first)], narrowed := true }
def FeatureBackUptoSaid : Prop := featureBackUptoRow.holds Tryz.pinned (OpenSpec.upto featureBackSpec)

end Rows
end Go.Proofs.YtppgebehmmldfaaGreatDoor
