/-
  NARROWER THAN 'FOR EVERY INPUT', by the rows' own cells (each row's printed sentence says how): OxmCopies: laid · PortDecodes: laid · PortNames: laid · PortEncodes: laid · PortBack: laid · CoverOrder: laid.
  DERIVED. THE GIVEN ROWS OF THIS SEAT. 6 by the template 'for every input the law returns true; each argument reads behind the call as it read before'; 0 by the template 'total and deterministic' (their statements: YtgljcfbcdniffaaDoorTotals.lean).
  GIVEN WITH THE SEED: the statements are not yours to turn. If you find one false, say at which input.
  Laid BY PROGRAM, IN A SANDBOX (cutbox-rows.mjs): the forced cells as the released guide's own fill.sh prints them over the translation 5b05dc6df01bcbdd… (all of the seat's roots in one cut). By AI agents, Wed Nov 11 2026. No macro, syntax, notation, axiom, sorry.
-/
import Derived.Test.YtgljcfbcdniffaaDoorChecked
import GoSem.PinnedTables
import GoSem.Claim
import GoSem.ClaimJoined
import GoSem.ClaimMapViews
import Derived.JoinedTies
import Derived.KernelRfl
namespace Go.Proofs.YtgljcfbcdniffaaDoor
/- THE CELL 'sum', in the pinned program and in every row, IS THE sha256 OF THE DUMP (.gsa) THAT YtgljcfbcdniffaaDoorProg.lean LOADS. Nothing in Lean hashes anything: it is a label: what it is worth is what the hold of that sum in a sandbox is worth. -/
noncomputable def Tryd.pinned : Pinned := { name := "ytgljcfbcdniffaadoor", sum := "5b05dc6df01bcbdd81aef59457f8bd796c867f724667dbc925616cf55b96fd73", checked := Tryd.checked }
namespace Rows
def none {H : Type} : Left H := { results := [], args := [] }

/- WHAT THE LISTED PACKAGE-LEVEL VARIABLES READ AS WHEN THE CALL BEGINS. Each datum BY PROGRAM (the guide's laid-datum.mjs) off the statement by which the dump's own 'gosem.cut.vars' lays the variable. In a bare row this is a premise. The card (YtgljcfbcdniffaaDoorCards.lean) ties it to the program's text. -/
def laid_unicode_utf8_acceptRanges {H : Type} : DataW H := .agg [.agg [.lit (.int .u8 128), .lit (.int .u8 191)], .agg [.lit (.int .u8 160), .lit (.int .u8 191)], .agg [.lit (.int .u8 128), .lit (.int .u8 159)], .agg [.lit (.int .u8 144), .lit (.int .u8 191)], .agg [.lit (.int .u8 128), .lit (.int .u8 143)], .agg [.lit (.int .u8 0), .lit (.int .u8 0)], .agg [.lit (.int .u8 0), .lit (.int .u8 0)], .agg [.lit (.int .u8 0), .lit (.int .u8 0)], .agg [.lit (.int .u8 0), .lit (.int .u8 0)], .agg [.lit (.int .u8 0), .lit (.int .u8 0)], .agg [.lit (.int .u8 0), .lit (.int .u8 0)], .agg [.lit (.int .u8 0), .lit (.int .u8 0)], .agg [.lit (.int .u8 0), .lit (.int .u8 0)], .agg [.lit (.int .u8 0), .lit (.int .u8 0)], .agg [.lit (.int .u8 0), .lit (.int .u8 0)], .agg [.lit (.int .u8 0), .lit (.int .u8 0)]]
/-- One of Go's own tables, pinned by name: the form's constant. -/
def laid_unicode_utf8_first : DataW Unit := Go.Pinned.utf8First

/-- 'gunwalelaw08.OxmCopies': WHATEVER THE INPUT: true; the input reads as it did. -/
def oxmCopiesSpec : ChangeSpec := { name := "oxmCopies", fn := fun _ => fun
  | [d1, d2, d3] => { results := [.lit (.bool true)], args := [d1, d2, d3] }
  | _ => none }
def oxmCopiesRow : OpenClaim := { program := "ytgljcfbcdniffaadoor", sum := "5b05dc6df01bcbdd81aef59457f8bd796c867f724667dbc925616cf55b96fd73", func := "gunwale/gunwalelaw08.OxmCopies", spec := "oxmCopies", unfollowed := true, recurses := true, named := ["unicode/utf8.first", "unicode/utf8.acceptRanges"], plainKeys := false, apart := false, laid := [("unicode/utf8.acceptRanges", laid_unicode_utf8_acceptRanges), ("unicode/utf8.first", laid_unicode_utf8_first)] }
def OxmCopiesSaid : Prop := oxmCopiesRow.holds Tryd.pinned (OpenSpec.ofChange oxmCopiesSpec)

/-- ITS FALSE NEIGHBOUR: 'it returns false'. Refute it at one input. -/
def oxmCopiesWrong : ChangeSpec := { name := "oxmCopies", fn := fun _ => fun
  | [d1, d2, d3] => { results := [.lit (.bool false)], args := [d1, d2, d3] }
  | _ => none }
def OxmCopiesWrongFalsely : Prop := oxmCopiesRow.holds Tryd.pinned (OpenSpec.ofChange oxmCopiesWrong)

/-- 'gunwalelaw19.PortDecodes': WHATEVER THE INPUT: true; the input reads as it did. -/
def portDecodesSpec : ChangeSpec := { name := "portDecodes", fn := fun _ => fun
  | [d1, d2] => { results := [.lit (.bool true)], args := [d1, d2] }
  | _ => none }
def portDecodesRow : OpenClaim := { program := "ytgljcfbcdniffaadoor", sum := "5b05dc6df01bcbdd81aef59457f8bd796c867f724667dbc925616cf55b96fd73", func := "gunwale/gunwalelaw19.PortDecodes", spec := "portDecodes", inPlace := ["internal/bytealg.IndexByte", "internal/bytealg.Index"], unfollowed := true, recurses := true, named := ["internal/bytealg.MaxLen", "unicode/utf8.first", "unicode/utf8.acceptRanges"], plainKeys := false, apart := false, laid := [("unicode/utf8.acceptRanges", laid_unicode_utf8_acceptRanges), ("unicode/utf8.first", laid_unicode_utf8_first)] }
def PortDecodesSaid : Prop := portDecodesRow.holds Tryd.pinned (OpenSpec.ofChange portDecodesSpec)

/-- ITS FALSE NEIGHBOUR: 'it returns false'. Refute it at one input. -/
def portDecodesWrong : ChangeSpec := { name := "portDecodes", fn := fun _ => fun
  | [d1, d2] => { results := [.lit (.bool false)], args := [d1, d2] }
  | _ => none }
def PortDecodesWrongFalsely : Prop := portDecodesRow.holds Tryd.pinned (OpenSpec.ofChange portDecodesWrong)

/-- 'gunwalelaw19.PortNames': WHATEVER THE INPUT: true; the input reads as it did. -/
def portNamesSpec : ChangeSpec := { name := "portNames", fn := fun _ => fun
  | [d] => { results := [.lit (.bool true)], args := [d] }
  | _ => none }
def portNamesRow : OpenClaim := { program := "ytgljcfbcdniffaadoor", sum := "5b05dc6df01bcbdd81aef59457f8bd796c867f724667dbc925616cf55b96fd73", func := "gunwale/gunwalelaw19.PortNames", spec := "portNames", inPlace := ["internal/bytealg.IndexByte", "internal/bytealg.Index"], unfollowed := true, recurses := true, named := ["internal/bytealg.MaxLen", "unicode/utf8.first", "unicode/utf8.acceptRanges"], plainKeys := false, apart := false, laid := [("unicode/utf8.acceptRanges", laid_unicode_utf8_acceptRanges), ("unicode/utf8.first", laid_unicode_utf8_first)] }
def PortNamesSaid : Prop := portNamesRow.holds Tryd.pinned (OpenSpec.ofChange portNamesSpec)

/-- ITS FALSE NEIGHBOUR: 'it returns false'. Refute it at one input. -/
def portNamesWrong : ChangeSpec := { name := "portNames", fn := fun _ => fun
  | [d] => { results := [.lit (.bool false)], args := [d] }
  | _ => none }
def PortNamesWrongFalsely : Prop := portNamesRow.holds Tryd.pinned (OpenSpec.ofChange portNamesWrong)

/-- 'gunwalelaw19.PortEncodes': WHATEVER THE INPUT: true; the input reads as it did. -/
def portEncodesSpec : ChangeSpec := { name := "portEncodes", fn := fun _ => fun
  | [d1, d2] => { results := [.lit (.bool true)], args := [d1, d2] }
  | _ => none }
def portEncodesRow : OpenClaim := { program := "ytgljcfbcdniffaadoor", sum := "5b05dc6df01bcbdd81aef59457f8bd796c867f724667dbc925616cf55b96fd73", func := "gunwale/gunwalelaw19.PortEncodes", spec := "portEncodes", inPlace := ["internal/bytealg.IndexByte", "internal/bytealg.Index"], unfollowed := true, recurses := true, named := ["internal/bytealg.MaxLen", "unicode/utf8.first", "unicode/utf8.acceptRanges"], plainKeys := false, apart := false, laid := [("unicode/utf8.acceptRanges", laid_unicode_utf8_acceptRanges), ("unicode/utf8.first", laid_unicode_utf8_first)] }
def PortEncodesSaid : Prop := portEncodesRow.holds Tryd.pinned (OpenSpec.ofChange portEncodesSpec)

/-- ITS FALSE NEIGHBOUR: 'it returns false'. Refute it at one input. -/
def portEncodesWrong : ChangeSpec := { name := "portEncodes", fn := fun _ => fun
  | [d1, d2] => { results := [.lit (.bool false)], args := [d1, d2] }
  | _ => none }
def PortEncodesWrongFalsely : Prop := portEncodesRow.holds Tryd.pinned (OpenSpec.ofChange portEncodesWrong)

/-- 'gunwalelaw19.PortBack': WHATEVER THE INPUT: true; the input reads as it did. -/
def portBackSpec : ChangeSpec := { name := "portBack", fn := fun _ => fun
  | [d1, d2, d3] => { results := [.lit (.bool true)], args := [d1, d2, d3] }
  | _ => none }
def portBackRow : OpenClaim := { program := "ytgljcfbcdniffaadoor", sum := "5b05dc6df01bcbdd81aef59457f8bd796c867f724667dbc925616cf55b96fd73", func := "gunwale/gunwalelaw19.PortBack", spec := "portBack", inPlace := ["internal/bytealg.IndexByte", "internal/bytealg.Index"], unfollowed := true, recurses := true, named := ["internal/bytealg.MaxLen", "unicode/utf8.first", "unicode/utf8.acceptRanges"], plainKeys := false, apart := false, laid := [("unicode/utf8.acceptRanges", laid_unicode_utf8_acceptRanges), ("unicode/utf8.first", laid_unicode_utf8_first)] }
def PortBackSaid : Prop := portBackRow.holds Tryd.pinned (OpenSpec.ofChange portBackSpec)

/-- ITS FALSE NEIGHBOUR: 'it returns false'. Refute it at one input. -/
def portBackWrong : ChangeSpec := { name := "portBack", fn := fun _ => fun
  | [d1, d2, d3] => { results := [.lit (.bool false)], args := [d1, d2, d3] }
  | _ => none }
def PortBackWrongFalsely : Prop := portBackRow.holds Tryd.pinned (OpenSpec.ofChange portBackWrong)

/-- 'gunwalelaw11.CoverOrder': WHATEVER THE INPUT: true; the input reads as it did. -/
def coverOrderSpec : ChangeSpec := { name := "coverOrder", fn := fun _ => fun
  | [d1, d2, d3] => { results := [.lit (.bool true)], args := [d1, d2, d3] }
  | _ => none }
def coverOrderRow : OpenClaim := { program := "ytgljcfbcdniffaadoor", sum := "5b05dc6df01bcbdd81aef59457f8bd796c867f724667dbc925616cf55b96fd73", func := "gunwale/gunwalelaw11.CoverOrder", spec := "coverOrder", unfollowed := true, recurses := true, named := ["unicode/utf8.first", "unicode/utf8.acceptRanges"], plainKeys := false, apart := false, laid := [("unicode/utf8.acceptRanges", laid_unicode_utf8_acceptRanges), ("unicode/utf8.first", laid_unicode_utf8_first)] }
def CoverOrderSaid : Prop := coverOrderRow.holds Tryd.pinned (OpenSpec.ofChange coverOrderSpec)

/-- ITS FALSE NEIGHBOUR: 'it returns false'. Refute it at one input. -/
def coverOrderWrong : ChangeSpec := { name := "coverOrder", fn := fun _ => fun
  | [d1, d2, d3] => { results := [.lit (.bool false)], args := [d1, d2, d3] }
  | _ => none }
def CoverOrderWrongFalsely : Prop := coverOrderRow.holds Tryd.pinned (OpenSpec.ofChange coverOrderWrong)

/- THE SECOND FORM. 'bulk': how many values and letters a reading holds, each counted each time it is reached (what is shared counts as often as it is met; a slice's spare places count too). A statement '..UptoSaid' is the law's where the arguments, and the package variables that the reading takes, are together of bulk at most 1048576: NARROWER than '..Said'. Prove '..Said' where nothing that the law and all that it calls make is longer than what came in: it says more and counts as full. Else prove '..UptoSaid'. A law counts once. -/
mutual
def uptoBulk {H : Type} : DataW H → Nat
  | .lit (.string bytes) => bytes.length + 1
  | .lit _ => 1
  | .nil => 1
  | .ptr d => uptoBulk d + 1
  | .slice elems spare => uptoBulkAll elems + uptoBulkAll spare + 1
  | .agg parts => uptoBulkAll parts + 1
  | .iface _ d => uptoBulk d + 1
  | .map entries => uptoBulkEntries entries + 1
  | .held _ => 1
def uptoBulkAll {H : Type} : List (DataW H) → Nat
  | [] => 0
  | d :: r => uptoBulk d + uptoBulkAll r
def uptoBulkEntries {H : Type} : List (Lit × DataW H) → Nat
  | [] => 0
  | x :: r => uptoBulkEntry x + uptoBulkEntries r
def uptoBulkEntry {H : Type} : Lit × DataW H → Nat
  | (.string bytes, d) => bytes.length + uptoBulk d + 1
  | (_, d) => uptoBulk d + 1
 end
def uptoSmall : (H : Type) → List (DataW H) → Bool := fun _ ds => decide (uptoBulkAll ds ≤ 1048576)
def OpenSpec.upto (s : _root_.Go.ChangeSpec) : _root_.Go.OpenSpec := { _root_.Go.OpenSpec.ofChange s with cond := some uptoSmall }

/-- 'gunwalelaw08.OxmCopies', WHERE WHAT IT READS IS OF BULK AT MOST 1048576: true; the input reads as it did. -/
def oxmCopiesUptoRow : OpenClaim := { program := "ytgljcfbcdniffaadoor", sum := "5b05dc6df01bcbdd81aef59457f8bd796c867f724667dbc925616cf55b96fd73", func := "gunwale/gunwalelaw08.OxmCopies", spec := "oxmCopies", unfollowed := true, recurses := true, named := ["unicode/utf8.first", "unicode/utf8.acceptRanges"], plainKeys := false, apart := false, laid := [("unicode/utf8.acceptRanges", laid_unicode_utf8_acceptRanges), ("unicode/utf8.first", laid_unicode_utf8_first)], narrowed := true }
def OxmCopiesUptoSaid : Prop := oxmCopiesUptoRow.holds Tryd.pinned (OpenSpec.upto oxmCopiesSpec)

/-- 'gunwalelaw19.PortDecodes', WHERE WHAT IT READS IS OF BULK AT MOST 1048576: true; the input reads as it did. -/
def portDecodesUptoRow : OpenClaim := { program := "ytgljcfbcdniffaadoor", sum := "5b05dc6df01bcbdd81aef59457f8bd796c867f724667dbc925616cf55b96fd73", func := "gunwale/gunwalelaw19.PortDecodes", spec := "portDecodes", inPlace := ["internal/bytealg.IndexByte", "internal/bytealg.Index"], unfollowed := true, recurses := true, named := ["internal/bytealg.MaxLen", "unicode/utf8.first", "unicode/utf8.acceptRanges"], plainKeys := false, apart := false, laid := [("unicode/utf8.acceptRanges", laid_unicode_utf8_acceptRanges), ("unicode/utf8.first", laid_unicode_utf8_first)], narrowed := true }
def PortDecodesUptoSaid : Prop := portDecodesUptoRow.holds Tryd.pinned (OpenSpec.upto portDecodesSpec)

/-- 'gunwalelaw19.PortNames', WHERE WHAT IT READS IS OF BULK AT MOST 1048576: true; the input reads as it did. -/
def portNamesUptoRow : OpenClaim := { program := "ytgljcfbcdniffaadoor", sum := "5b05dc6df01bcbdd81aef59457f8bd796c867f724667dbc925616cf55b96fd73", func := "gunwale/gunwalelaw19.PortNames", spec := "portNames", inPlace := ["internal/bytealg.IndexByte", "internal/bytealg.Index"], unfollowed := true, recurses := true, named := ["internal/bytealg.MaxLen", "unicode/utf8.first", "unicode/utf8.acceptRanges"], plainKeys := false, apart := false, laid := [("unicode/utf8.acceptRanges", laid_unicode_utf8_acceptRanges), ("unicode/utf8.first", laid_unicode_utf8_first)], narrowed := true }
def PortNamesUptoSaid : Prop := portNamesUptoRow.holds Tryd.pinned (OpenSpec.upto portNamesSpec)

/-- 'gunwalelaw19.PortEncodes', WHERE WHAT IT READS IS OF BULK AT MOST 1048576: true; the input reads as it did. -/
def portEncodesUptoRow : OpenClaim := { program := "ytgljcfbcdniffaadoor", sum := "5b05dc6df01bcbdd81aef59457f8bd796c867f724667dbc925616cf55b96fd73", func := "gunwale/gunwalelaw19.PortEncodes", spec := "portEncodes", inPlace := ["internal/bytealg.IndexByte", "internal/bytealg.Index"], unfollowed := true, recurses := true, named := ["internal/bytealg.MaxLen", "unicode/utf8.first", "unicode/utf8.acceptRanges"], plainKeys := false, apart := false, laid := [("unicode/utf8.acceptRanges", laid_unicode_utf8_acceptRanges), ("unicode/utf8.first", laid_unicode_utf8_first)], narrowed := true }
def PortEncodesUptoSaid : Prop := portEncodesUptoRow.holds Tryd.pinned (OpenSpec.upto portEncodesSpec)

/-- 'gunwalelaw19.PortBack', WHERE WHAT IT READS IS OF BULK AT MOST 1048576: true; the input reads as it did. -/
def portBackUptoRow : OpenClaim := { program := "ytgljcfbcdniffaadoor", sum := "5b05dc6df01bcbdd81aef59457f8bd796c867f724667dbc925616cf55b96fd73", func := "gunwale/gunwalelaw19.PortBack", spec := "portBack", inPlace := ["internal/bytealg.IndexByte", "internal/bytealg.Index"], unfollowed := true, recurses := true, named := ["internal/bytealg.MaxLen", "unicode/utf8.first", "unicode/utf8.acceptRanges"], plainKeys := false, apart := false, laid := [("unicode/utf8.acceptRanges", laid_unicode_utf8_acceptRanges), ("unicode/utf8.first", laid_unicode_utf8_first)], narrowed := true }
def PortBackUptoSaid : Prop := portBackUptoRow.holds Tryd.pinned (OpenSpec.upto portBackSpec)

/-- 'gunwalelaw11.CoverOrder', WHERE WHAT IT READS IS OF BULK AT MOST 1048576: true; the input reads as it did. -/
def coverOrderUptoRow : OpenClaim := { program := "ytgljcfbcdniffaadoor", sum := "5b05dc6df01bcbdd81aef59457f8bd796c867f724667dbc925616cf55b96fd73", func := "gunwale/gunwalelaw11.CoverOrder", spec := "coverOrder", unfollowed := true, recurses := true, named := ["unicode/utf8.first", "unicode/utf8.acceptRanges"], plainKeys := false, apart := false, laid := [("unicode/utf8.acceptRanges", laid_unicode_utf8_acceptRanges), ("unicode/utf8.first", laid_unicode_utf8_first)], narrowed := true }
def CoverOrderUptoSaid : Prop := coverOrderUptoRow.holds Tryd.pinned (OpenSpec.upto coverOrderSpec)

end Rows
end Go.Proofs.YtgljcfbcdniffaaDoor
