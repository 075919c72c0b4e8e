/-
  NARROWER THAN 'FOR EVERY INPUT', by the rows' own cells (each row's printed sentence says how): ActionEncodes: laid · ActionDecodes: laid · MatchEncodes: laid · MatchDecodes: laid · MatchCopies: laid.
  DERIVED. THE GIVEN ROWS OF THIS SEAT. 5 by the template 'for every input the law returns true; each argument reads behind the call as it read before'; 0 by the template 'total and deterministic' (their statements: YtoejpijobbcooaaGreatDoorTotals.lean).
  GIVEN WITH THE SEED: the statements are not yours to turn. If you find one false, say at which input.
  Laid BY PROGRAM, IN A SANDBOX (cutbox-rows.mjs): the forced cells as the released guide's own fill.sh prints them over the translation 4a576866981c935b… (all of the seat's roots in one cut). By AI agents, Wed Nov 11 2026. No macro, syntax, notation, axiom, sorry.
-/
import Derived.Test.YtoejpijobbcooaaGreatDoorChecked
import GoSem.PinnedTables
import GoSem.Claim
import GoSem.ClaimJoined
import GoSem.ClaimMapViews
import Derived.JoinedTies
import Derived.KernelRfl
namespace Go.Proofs.YtoejpijobbcooaaGreatDoor
/- THE CELL 'sum', in the pinned program and in every row, IS THE sha256 OF THE DUMP (.gsa) THAT YtoejpijobbcooaaGreatDoorProg.lean LOADS. Nothing in Lean hashes anything: it is a label: what it is worth is what the hold of that sum in a sandbox is worth. -/
noncomputable def Tryz.pinned : Pinned := { name := "ytoejpijobbcooaagreatdoor", sum := "4a576866981c935b3242c3f634d5b992b091d9e53d1ef49be90af608aa28d7ea", checked := Tryz.checked }
namespace Rows
def none {H : Type} : Left H := { results := [], args := [] }

/- WHAT THE LISTED PACKAGE-LEVEL VARIABLES READ AS WHEN THE CALL BEGINS. Each datum BY PROGRAM (the guide's laid-datum.mjs) off the statement by which the dump's own 'gosem.cut.vars' lays the variable. In a bare row this is a premise. The card (YtoejpijobbcooaaGreatDoorCards.lean) ties it to the program's text. -/
def laid_unicode_utf8_acceptRanges {H : Type} : DataW H := .agg [.agg [.lit (.int .u8 128), .lit (.int .u8 191)], .agg [.lit (.int .u8 160), .lit (.int .u8 191)], .agg [.lit (.int .u8 128), .lit (.int .u8 159)], .agg [.lit (.int .u8 144), .lit (.int .u8 191)], .agg [.lit (.int .u8 128), .lit (.int .u8 143)], .agg [.lit (.int .u8 0), .lit (.int .u8 0)], .agg [.lit (.int .u8 0), .lit (.int .u8 0)], .agg [.lit (.int .u8 0), .lit (.int .u8 0)], .agg [.lit (.int .u8 0), .lit (.int .u8 0)], .agg [.lit (.int .u8 0), .lit (.int .u8 0)], .agg [.lit (.int .u8 0), .lit (.int .u8 0)], .agg [.lit (.int .u8 0), .lit (.int .u8 0)], .agg [.lit (.int .u8 0), .lit (.int .u8 0)], .agg [.lit (.int .u8 0), .lit (.int .u8 0)], .agg [.lit (.int .u8 0), .lit (.int .u8 0)], .agg [.lit (.int .u8 0), .lit (.int .u8 0)]]
/-- One of Go's own tables, pinned by name: the form's constant. -/
def laid_unicode_utf8_first : DataW Unit := Go.Pinned.utf8First

/-- 'gunwalelaw12.ActionEncodes': WHATEVER THE INPUT: true; the input reads as it did. -/
def actionEncodesSpec : ChangeSpec := { name := "actionEncodes", fn := fun _ => fun
  | [d] => { results := [.lit (.bool true)], args := [d] }
  | _ => none }
def actionEncodesRow : OpenClaim := { program := "ytoejpijobbcooaagreatdoor", sum := "4a576866981c935b3242c3f634d5b992b091d9e53d1ef49be90af608aa28d7ea", func := "gunwale/gunwalelaw12.ActionEncodes", spec := "actionEncodes", unfollowed := true, recurses := true, named := ["unicode/utf8.first", "unicode/utf8.acceptRanges"], apart := false, laid := [("unicode/utf8.acceptRanges", laid_unicode_utf8_acceptRanges), ("unicode/utf8.first", laid_unicode_utf8_first)] }
def ActionEncodesSaid : Prop := actionEncodesRow.holds Tryz.pinned (OpenSpec.ofChange actionEncodesSpec)

/-- ITS FALSE NEIGHBOUR: 'it returns false'. Refute it at one input. -/
def actionEncodesWrong : ChangeSpec := { name := "actionEncodes", fn := fun _ => fun
  | [d] => { results := [.lit (.bool false)], args := [d] }
  | _ => none }
def ActionEncodesWrongFalsely : Prop := actionEncodesRow.holds Tryz.pinned (OpenSpec.ofChange actionEncodesWrong)

/-- 'gunwalelaw12.ActionDecodes': WHATEVER THE INPUT: true; the input reads as it did. -/
def actionDecodesSpec : ChangeSpec := { name := "actionDecodes", fn := fun _ => fun
  | [d] => { results := [.lit (.bool true)], args := [d] }
  | _ => none }
def actionDecodesRow : OpenClaim := { program := "ytoejpijobbcooaagreatdoor", sum := "4a576866981c935b3242c3f634d5b992b091d9e53d1ef49be90af608aa28d7ea", func := "gunwale/gunwalelaw12.ActionDecodes", spec := "actionDecodes", unfollowed := true, recurses := true, named := ["unicode/utf8.first", "unicode/utf8.acceptRanges"], apart := false, laid := [("unicode/utf8.acceptRanges", laid_unicode_utf8_acceptRanges), ("unicode/utf8.first", laid_unicode_utf8_first)] }
def ActionDecodesSaid : Prop := actionDecodesRow.holds Tryz.pinned (OpenSpec.ofChange actionDecodesSpec)

/-- ITS FALSE NEIGHBOUR: 'it returns false'. Refute it at one input. -/
def actionDecodesWrong : ChangeSpec := { name := "actionDecodes", fn := fun _ => fun
  | [d] => { results := [.lit (.bool false)], args := [d] }
  | _ => none }
def ActionDecodesWrongFalsely : Prop := actionDecodesRow.holds Tryz.pinned (OpenSpec.ofChange actionDecodesWrong)

/-- 'gunwalelaw10.MatchEncodes': WHATEVER THE INPUT: true; the input reads as it did. -/
def matchEncodesSpec : ChangeSpec := { name := "matchEncodes", fn := fun _ => fun
  | [d1, d2] => { results := [.lit (.bool true)], args := [d1, d2] }
  | _ => none }
def matchEncodesRow : OpenClaim := { program := "ytoejpijobbcooaagreatdoor", sum := "4a576866981c935b3242c3f634d5b992b091d9e53d1ef49be90af608aa28d7ea", func := "gunwale/gunwalelaw10.MatchEncodes", spec := "matchEncodes", unfollowed := true, recurses := true, named := ["unicode/utf8.first", "unicode/utf8.acceptRanges"], apart := false, laid := [("unicode/utf8.acceptRanges", laid_unicode_utf8_acceptRanges), ("unicode/utf8.first", laid_unicode_utf8_first)] }
def MatchEncodesSaid : Prop := matchEncodesRow.holds Tryz.pinned (OpenSpec.ofChange matchEncodesSpec)

/-- ITS FALSE NEIGHBOUR: 'it returns false'. Refute it at one input. -/
def matchEncodesWrong : ChangeSpec := { name := "matchEncodes", fn := fun _ => fun
  | [d1, d2] => { results := [.lit (.bool false)], args := [d1, d2] }
  | _ => none }
def MatchEncodesWrongFalsely : Prop := matchEncodesRow.holds Tryz.pinned (OpenSpec.ofChange matchEncodesWrong)

/-- 'gunwalelaw10.MatchDecodes': WHATEVER THE INPUT: true; the input reads as it did. -/
def matchDecodesSpec : ChangeSpec := { name := "matchDecodes", fn := fun _ => fun
  | [d1, d2] => { results := [.lit (.bool true)], args := [d1, d2] }
  | _ => none }
def matchDecodesRow : OpenClaim := { program := "ytoejpijobbcooaagreatdoor", sum := "4a576866981c935b3242c3f634d5b992b091d9e53d1ef49be90af608aa28d7ea", func := "gunwale/gunwalelaw10.MatchDecodes", spec := "matchDecodes", unfollowed := true, recurses := true, named := ["unicode/utf8.first", "unicode/utf8.acceptRanges"], apart := false, laid := [("unicode/utf8.acceptRanges", laid_unicode_utf8_acceptRanges), ("unicode/utf8.first", laid_unicode_utf8_first)] }
def MatchDecodesSaid : Prop := matchDecodesRow.holds Tryz.pinned (OpenSpec.ofChange matchDecodesSpec)

/-- ITS FALSE NEIGHBOUR: 'it returns false'. Refute it at one input. -/
def matchDecodesWrong : ChangeSpec := { name := "matchDecodes", fn := fun _ => fun
  | [d1, d2] => { results := [.lit (.bool false)], args := [d1, d2] }
  | _ => none }
def MatchDecodesWrongFalsely : Prop := matchDecodesRow.holds Tryz.pinned (OpenSpec.ofChange matchDecodesWrong)

/-- 'gunwalelaw10.MatchCopies': WHATEVER THE INPUT: true; the input reads as it did. -/
def matchCopiesSpec : ChangeSpec := { name := "matchCopies", fn := fun _ => fun
  | [d1, d2, d3] => { results := [.lit (.bool true)], args := [d1, d2, d3] }
  | _ => none }
def matchCopiesRow : OpenClaim := { program := "ytoejpijobbcooaagreatdoor", sum := "4a576866981c935b3242c3f634d5b992b091d9e53d1ef49be90af608aa28d7ea", func := "gunwale/gunwalelaw10.MatchCopies", spec := "matchCopies", unfollowed := true, recurses := true, named := ["unicode/utf8.first", "unicode/utf8.acceptRanges"], apart := false, laid := [("unicode/utf8.acceptRanges", laid_unicode_utf8_acceptRanges), ("unicode/utf8.first", laid_unicode_utf8_first)] }
def MatchCopiesSaid : Prop := matchCopiesRow.holds Tryz.pinned (OpenSpec.ofChange matchCopiesSpec)

/-- ITS FALSE NEIGHBOUR: 'it returns false'. Refute it at one input. -/
def matchCopiesWrong : ChangeSpec := { name := "matchCopies", fn := fun _ => fun
  | [d1, d2, d3] => { results := [.lit (.bool false)], args := [d1, d2, d3] }
  | _ => none }
def MatchCopiesWrongFalsely : Prop := matchCopiesRow.holds Tryz.pinned (OpenSpec.ofChange matchCopiesWrong)

/- THE SECOND FORM. 'bulk': how many values and letters a reading holds, each counted each time it is reached (what is shared counts as often as it is met; a slice's spare places count too). A statement '..UptoSaid' is the law's where the arguments, and the package variables that the reading takes, are together of bulk at most 1048576: NARROWER than '..Said'. Prove '..Said' where nothing that the law and all that it calls make is longer than what came in: it says more and counts as full. Else prove '..UptoSaid'. A law counts once. -/
mutual
def uptoBulk {H : Type} : DataW H → Nat
  | .lit (.string bytes) => bytes.length + 1
  | .lit _ => 1
  | .nil => 1
  | .ptr d => uptoBulk d + 1
  | .slice elems spare => uptoBulkAll elems + uptoBulkAll spare + 1
  | .agg parts => uptoBulkAll parts + 1
  | .iface _ d => uptoBulk d + 1
  | .map entries => uptoBulkEntries entries + 1
  | .held _ => 1
def uptoBulkAll {H : Type} : List (DataW H) → Nat
  | [] => 0
  | d :: r => uptoBulk d + uptoBulkAll r
def uptoBulkEntries {H : Type} : List (Lit × DataW H) → Nat
  | [] => 0
  | x :: r => uptoBulkEntry x + uptoBulkEntries r
def uptoBulkEntry {H : Type} : Lit × DataW H → Nat
  | (.string bytes, d) => bytes.length + uptoBulk d + 1
  | (_, d) => uptoBulk d + 1
 end
def uptoSmall : (H : Type) → List (DataW H) → Bool := fun _ ds => decide (uptoBulkAll ds ≤ 1048576)
def OpenSpec.upto (s : _root_.Go.ChangeSpec) : _root_.Go.OpenSpec := { _root_.Go.OpenSpec.ofChange s with cond := some uptoSmall }

/-- 'gunwalelaw12.ActionEncodes', WHERE WHAT IT READS IS OF BULK AT MOST 1048576: true; the input reads as it did. -/
def actionEncodesUptoRow : OpenClaim := { program := "ytoejpijobbcooaagreatdoor", sum := "4a576866981c935b3242c3f634d5b992b091d9e53d1ef49be90af608aa28d7ea", func := "gunwale/gunwalelaw12.ActionEncodes", spec := "actionEncodes", unfollowed := true, recurses := true, named := ["unicode/utf8.first", "unicode/utf8.acceptRanges"], apart := false, laid := [("unicode/utf8.acceptRanges", laid_unicode_utf8_acceptRanges), ("unicode/utf8.first", laid_unicode_utf8_first)], narrowed := true }
def ActionEncodesUptoSaid : Prop := actionEncodesUptoRow.holds Tryz.pinned (OpenSpec.upto actionEncodesSpec)

/-- 'gunwalelaw12.ActionDecodes', WHERE WHAT IT READS IS OF BULK AT MOST 1048576: true; the input reads as it did. -/
def actionDecodesUptoRow : OpenClaim := { program := "ytoejpijobbcooaagreatdoor", sum := "4a576866981c935b3242c3f634d5b992b091d9e53d1ef49be90af608aa28d7ea", func := "gunwale/gunwalelaw12.ActionDecodes", spec := "actionDecodes", unfollowed := true, recurses := true, named := ["unicode/utf8.first", "unicode/utf8.acceptRanges"], apart := false, laid := [("unicode/utf8.acceptRanges", laid_unicode_utf8_acceptRanges), ("unicode/utf8.first", laid_unicode_utf8_first)], narrowed := true }
def ActionDecodesUptoSaid : Prop := actionDecodesUptoRow.holds Tryz.pinned (OpenSpec.upto actionDecodesSpec)

/-- 'gunwalelaw10.MatchEncodes', WHERE WHAT IT READS IS OF BULK AT MOST 1048576: true; the input reads as it did. -/
def matchEncodesUptoRow : OpenClaim := { program := "ytoejpijobbcooaagreatdoor", sum := "4a576866981c935b3242c3f634d5b992b091d9e53d1ef49be90af608aa28d7ea", func := "gunwale/gunwalelaw10.MatchEncodes", spec := "matchEncodes", unfollowed := true, recurses := true, named := ["unicode/utf8.first", "unicode/utf8.acceptRanges"], apart := false, laid := [("unicode/utf8.acceptRanges", laid_unicode_utf8_acceptRanges), ("unicode/utf8.first", laid_unicode_utf8_first)], narrowed := true }
def MatchEncodesUptoSaid : Prop := matchEncodesUptoRow.holds Tryz.pinned (OpenSpec.upto matchEncodesSpec)

/-- 'gunwalelaw10.MatchDecodes', WHERE WHAT IT READS IS OF BULK AT MOST 1048576: true; the input reads as it did. -/
def matchDecodesUptoRow : OpenClaim := { program := "ytoejpijobbcooaagreatdoor", sum := "4a576866981c935b3242c3f634d5b992b091d9e53d1ef49be90af608aa28d7ea", func := "gunwale/gunwalelaw10.MatchDecodes", spec := "matchDecodes", unfollowed := true, recurses := true, named := ["unicode/utf8.first", "unicode/utf8.acceptRanges"], apart := false, laid := [("unicode/utf8.acceptRanges", laid_unicode_utf8_acceptRanges), ("unicode/utf8.first", laid_unicode_utf8_first)], narrowed := true }
def MatchDecodesUptoSaid : Prop := matchDecodesUptoRow.holds Tryz.pinned (OpenSpec.upto matchDecodesSpec)

/-- 'gunwalelaw10.MatchCopies', WHERE WHAT IT READS IS OF BULK AT MOST 1048576: true; the input reads as it did. -/
def matchCopiesUptoRow : OpenClaim := { program := "ytoejpijobbcooaagreatdoor", sum := "4a576866981c935b3242c3f634d5b992b091d9e53d1ef49be90af608aa28d7ea", func := "gunwale/gunwalelaw10.MatchCopies", spec := "matchCopies", unfollowed := true, recurses := true, named := ["unicode/utf8.first", "unicode/utf8.acceptRanges"], apart := false, laid := [("unicode/utf8.acceptRanges", laid_unicode_utf8_acceptRanges), ("unicode/utf8.first", laid_unicode_utf8_first)], narrowed := true }
def MatchCopiesUptoSaid : Prop := matchCopiesUptoRow.holds Tryz.pinned (OpenSpec.upto matchCopiesSpec)

end Rows
end Go.Proofs.YtoejpijobbcooaaGreatDoor
