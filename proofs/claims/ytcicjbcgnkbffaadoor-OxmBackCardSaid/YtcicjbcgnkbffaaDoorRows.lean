/-
  NARROWER THAN 'FOR EVERY INPUT', by the rows' own cells (each row's printed sentence says how): OxmEncodes: laid · OxmDecodes: laid · OxmBack: laid.
  DERIVED. THE GIVEN ROWS OF THIS SEAT. 3 by the template 'for every input the law returns true; each argument reads behind the call as it read before'; 0 by the template 'total and deterministic' (their statements: YtcicjbcgnkbffaaDoorTotals.lean).
  GIVEN WITH THE SEED: the statements are not yours to turn. If you find one false, say at which input.
  Laid BY PROGRAM, IN A SANDBOX (cutbox-rows.mjs): the forced cells as the released guide's own fill.sh prints them over the translation d788ac6223c75a15… (all of the seat's roots in one cut). By AI agents, Wed Nov 11 2026. No macro, syntax, notation, axiom, sorry.
-/
import Derived.Test.YtcicjbcgnkbffaaDoorChecked
import GoSem.PinnedTables
import GoSem.Claim
import GoSem.ClaimJoined
import GoSem.ClaimMapViews
import Derived.JoinedTies
import Derived.KernelRfl
namespace Go.Proofs.YtcicjbcgnkbffaaDoor
/- THE CELL 'sum', in the pinned program and in every row, IS THE sha256 OF THE DUMP (.gsa) THAT YtcicjbcgnkbffaaDoorProg.lean LOADS. Nothing in Lean hashes anything: it is a label: what it is worth is what the hold of that sum in a sandbox is worth. -/
noncomputable def Tryd.pinned : Pinned := { name := "ytcicjbcgnkbffaadoor", sum := "d788ac6223c75a15c86ac68d4384e94f94fb3c242ffc138702ebf2fa7c5ae9ce", checked := Tryd.checked }
namespace Rows
def none {H : Type} : Left H := { results := [], args := [] }

/- WHAT THE LISTED PACKAGE-LEVEL VARIABLES READ AS WHEN THE CALL BEGINS. Each datum BY PROGRAM (the guide's laid-datum.mjs) off the statement by which the dump's own 'gosem.cut.vars' lays the variable. In a bare row this is a premise. The card (YtcicjbcgnkbffaaDoorCards.lean) ties it to the program's text. -/
def laid_unicode_utf8_acceptRanges {H : Type} : DataW H := .agg [.agg [.lit (.int .u8 128), .lit (.int .u8 191)], .agg [.lit (.int .u8 160), .lit (.int .u8 191)], .agg [.lit (.int .u8 128), .lit (.int .u8 159)], .agg [.lit (.int .u8 144), .lit (.int .u8 191)], .agg [.lit (.int .u8 128), .lit (.int .u8 143)], .agg [.lit (.int .u8 0), .lit (.int .u8 0)], .agg [.lit (.int .u8 0), .lit (.int .u8 0)], .agg [.lit (.int .u8 0), .lit (.int .u8 0)], .agg [.lit (.int .u8 0), .lit (.int .u8 0)], .agg [.lit (.int .u8 0), .lit (.int .u8 0)], .agg [.lit (.int .u8 0), .lit (.int .u8 0)], .agg [.lit (.int .u8 0), .lit (.int .u8 0)], .agg [.lit (.int .u8 0), .lit (.int .u8 0)], .agg [.lit (.int .u8 0), .lit (.int .u8 0)], .agg [.lit (.int .u8 0), .lit (.int .u8 0)], .agg [.lit (.int .u8 0), .lit (.int .u8 0)]]
/-- One of Go's own tables, pinned by name: the form's constant. -/
def laid_unicode_utf8_first : DataW Unit := Go.Pinned.utf8First

/-- 'gunwalelaw08.OxmEncodes': WHATEVER THE INPUT: true; the input reads as it did. -/
def oxmEncodesSpec : ChangeSpec := { name := "oxmEncodes", fn := fun _ => fun
  | [d] => { results := [.lit (.bool true)], args := [d] }
  | _ => none }
def oxmEncodesRow : OpenClaim := { program := "ytcicjbcgnkbffaadoor", sum := "d788ac6223c75a15c86ac68d4384e94f94fb3c242ffc138702ebf2fa7c5ae9ce", func := "gunwale/gunwalelaw08.OxmEncodes", spec := "oxmEncodes", unfollowed := true, recurses := true, named := ["unicode/utf8.first", "unicode/utf8.acceptRanges"], apart := false, laid := [("unicode/utf8.acceptRanges", laid_unicode_utf8_acceptRanges), ("unicode/utf8.first", laid_unicode_utf8_first)] }
def OxmEncodesSaid : Prop := oxmEncodesRow.holds Tryd.pinned (OpenSpec.ofChange oxmEncodesSpec)

/-- ITS FALSE NEIGHBOUR: 'it returns false'. Refute it at one input. -/
def oxmEncodesWrong : ChangeSpec := { name := "oxmEncodes", fn := fun _ => fun
  | [d] => { results := [.lit (.bool false)], args := [d] }
  | _ => none }
def OxmEncodesWrongFalsely : Prop := oxmEncodesRow.holds Tryd.pinned (OpenSpec.ofChange oxmEncodesWrong)

/-- 'gunwalelaw08.OxmDecodes': WHATEVER THE INPUT: true; the input reads as it did. -/
def oxmDecodesSpec : ChangeSpec := { name := "oxmDecodes", fn := fun _ => fun
  | [d] => { results := [.lit (.bool true)], args := [d] }
  | _ => none }
def oxmDecodesRow : OpenClaim := { program := "ytcicjbcgnkbffaadoor", sum := "d788ac6223c75a15c86ac68d4384e94f94fb3c242ffc138702ebf2fa7c5ae9ce", func := "gunwale/gunwalelaw08.OxmDecodes", spec := "oxmDecodes", unfollowed := true, recurses := true, named := ["unicode/utf8.first", "unicode/utf8.acceptRanges"], apart := false, laid := [("unicode/utf8.acceptRanges", laid_unicode_utf8_acceptRanges), ("unicode/utf8.first", laid_unicode_utf8_first)] }
def OxmDecodesSaid : Prop := oxmDecodesRow.holds Tryd.pinned (OpenSpec.ofChange oxmDecodesSpec)

/-- ITS FALSE NEIGHBOUR: 'it returns false'. Refute it at one input. -/
def oxmDecodesWrong : ChangeSpec := { name := "oxmDecodes", fn := fun _ => fun
  | [d] => { results := [.lit (.bool false)], args := [d] }
  | _ => none }
def OxmDecodesWrongFalsely : Prop := oxmDecodesRow.holds Tryd.pinned (OpenSpec.ofChange oxmDecodesWrong)

/-- 'gunwalelaw08.OxmBack': WHATEVER THE INPUT: true; the input reads as it did. -/
def oxmBackSpec : ChangeSpec := { name := "oxmBack", fn := fun _ => fun
  | [d1, d2] => { results := [.lit (.bool true)], args := [d1, d2] }
  | _ => none }
def oxmBackRow : OpenClaim := { program := "ytcicjbcgnkbffaadoor", sum := "d788ac6223c75a15c86ac68d4384e94f94fb3c242ffc138702ebf2fa7c5ae9ce", func := "gunwale/gunwalelaw08.OxmBack", spec := "oxmBack", unfollowed := true, recurses := true, named := ["unicode/utf8.first", "unicode/utf8.acceptRanges"], apart := false, laid := [("unicode/utf8.acceptRanges", laid_unicode_utf8_acceptRanges), ("unicode/utf8.first", laid_unicode_utf8_first)] }
def OxmBackSaid : Prop := oxmBackRow.holds Tryd.pinned (OpenSpec.ofChange oxmBackSpec)

/-- ITS FALSE NEIGHBOUR: 'it returns false'. Refute it at one input. -/
def oxmBackWrong : ChangeSpec := { name := "oxmBack", fn := fun _ => fun
  | [d1, d2] => { results := [.lit (.bool false)], args := [d1, d2] }
  | _ => none }
def OxmBackWrongFalsely : Prop := oxmBackRow.holds Tryd.pinned (OpenSpec.ofChange oxmBackWrong)

/- THE SECOND FORM. 'bulk': how many values and letters a reading holds, each counted each time it is reached (what is shared counts as often as it is met; a slice's spare places count too). A statement '..UptoSaid' is the law's where the arguments, and the package variables that the reading takes, are together of bulk at most 1048576: NARROWER than '..Said'. Prove '..Said' where nothing that the law and all that it calls make is longer than what came in: it says more and counts as full. Else prove '..UptoSaid'. A law counts once. -/
mutual
def uptoBulk {H : Type} : DataW H → Nat
  | .lit (.string bytes) => bytes.length + 1
  | .lit _ => 1
  | .nil => 1
  | .ptr d => uptoBulk d + 1
  | .slice elems spare => uptoBulkAll elems + uptoBulkAll spare + 1
  | .agg parts => uptoBulkAll parts + 1
  | .iface _ d => uptoBulk d + 1
  | .map entries => uptoBulkEntries entries + 1
  | .held _ => 1
def uptoBulkAll {H : Type} : List (DataW H) → Nat
  | [] => 0
  | d :: r => uptoBulk d + uptoBulkAll r
def uptoBulkEntries {H : Type} : List (Lit × DataW H) → Nat
  | [] => 0
  | x :: r => uptoBulkEntry x + uptoBulkEntries r
def uptoBulkEntry {H : Type} : Lit × DataW H → Nat
  | (.string bytes, d) => bytes.length + uptoBulk d + 1
  | (_, d) => uptoBulk d + 1
 end
def uptoSmall : (H : Type) → List (DataW H) → Bool := fun _ ds => decide (uptoBulkAll ds ≤ 1048576)
def OpenSpec.upto (s : _root_.Go.ChangeSpec) : _root_.Go.OpenSpec := { _root_.Go.OpenSpec.ofChange s with cond := some uptoSmall }

/-- 'gunwalelaw08.OxmEncodes', WHERE WHAT IT READS IS OF BULK AT MOST 1048576: true; the input reads as it did. -/
def oxmEncodesUptoRow : OpenClaim := { program := "ytcicjbcgnkbffaadoor", sum := "d788ac6223c75a15c86ac68d4384e94f94fb3c242ffc138702ebf2fa7c5ae9ce", func := "gunwale/gunwalelaw08.OxmEncodes", spec := "oxmEncodes", unfollowed := true, recurses := true, named := ["unicode/utf8.first", "unicode/utf8.acceptRanges"], apart := false, laid := [("unicode/utf8.acceptRanges", laid_unicode_utf8_acceptRanges), ("unicode/utf8.first", laid_unicode_utf8_first)], narrowed := true }
def OxmEncodesUptoSaid : Prop := oxmEncodesUptoRow.holds Tryd.pinned (OpenSpec.upto oxmEncodesSpec)

/-- 'gunwalelaw08.OxmDecodes', WHERE WHAT IT READS IS OF BULK AT MOST 1048576: true; the input reads as it did. -/
def oxmDecodesUptoRow : OpenClaim := { program := "ytcicjbcgnkbffaadoor", sum := "d788ac6223c75a15c86ac68d4384e94f94fb3c242ffc138702ebf2fa7c5ae9ce", func := "gunwale/gunwalelaw08.OxmDecodes", spec := "oxmDecodes", unfollowed := true, recurses := true, named := ["unicode/utf8.first", "unicode/utf8.acceptRanges"], apart := false, laid := [("unicode/utf8.acceptRanges", laid_unicode_utf8_acceptRanges), ("unicode/utf8.first", laid_unicode_utf8_first)], narrowed := true }
def OxmDecodesUptoSaid : Prop := oxmDecodesUptoRow.holds Tryd.pinned (OpenSpec.upto oxmDecodesSpec)

/-- 'gunwalelaw08.OxmBack', WHERE WHAT IT READS IS OF BULK AT MOST 1048576: true; the input reads as it did. -/
def oxmBackUptoRow : OpenClaim := { program := "ytcicjbcgnkbffaadoor", sum := "d788ac6223c75a15c86ac68d4384e94f94fb3c242ffc138702ebf2fa7c5ae9ce", func := "gunwale/gunwalelaw08.OxmBack", spec := "oxmBack", unfollowed := true, recurses := true, named := ["unicode/utf8.first", "unicode/utf8.acceptRanges"], apart := false, laid := [("unicode/utf8.acceptRanges", laid_unicode_utf8_acceptRanges), ("unicode/utf8.first", laid_unicode_utf8_first)], narrowed := true }
def OxmBackUptoSaid : Prop := oxmBackUptoRow.holds Tryd.pinned (OpenSpec.upto oxmBackSpec)

end Rows
end Go.Proofs.YtcicjbcgnkbffaaDoor
