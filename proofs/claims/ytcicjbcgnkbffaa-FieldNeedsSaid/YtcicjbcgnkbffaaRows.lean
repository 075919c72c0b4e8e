/-
  No cell of these rows narrows 'for every input' (looked for: loops, veiled, ifaces, maps, wideKeys, modest, calm, conditions, laid).
  DERIVED. THE GIVEN ROWS OF THIS SEAT. 3 by the template 'for every input the law returns true; each argument reads behind the call as it read before'; 0 by the template 'total and deterministic' (their statements: YtcicjbcgnkbffaaTotals.lean).
  GIVEN WITH THE SEED: the statements are not yours to turn. If you find one false, say at which input.
  Laid BY PROGRAM, IN A SANDBOX (cutbox-rows.mjs): the forced cells as the released guide's own fill.sh prints them over the translation 9daaf24c6ca94e36… (all of the seat's roots in one cut). By AI agents, Wed Nov 11 2026. No macro, syntax, notation, axiom, sorry.
-/
import Derived.Test.YtcicjbcgnkbffaaChecked
import GoSem.Claim
import GoSem.ClaimJoined
import GoSem.ClaimMapViews
import Derived.JoinedTies
import Derived.KernelRfl
namespace Go.Proofs.Ytcicjbcgnkbffaa
/- THE CELL 'sum', in the pinned program and in every row, IS THE sha256 OF THE DUMP (.gsa) THAT YtcicjbcgnkbffaaProg.lean LOADS. Nothing in Lean hashes anything: it is a label: what it is worth is what the hold of that sum in a sandbox is worth. -/
noncomputable def Try.pinned : Pinned := { name := "ytcicjbcgnkbffaa", sum := "9daaf24c6ca94e3625507ef19b1d08dbb524d637698c5aadd84910cf7351ffc8", checked := Try.checked }
namespace Rows
def none {H : Type} : Left H := { results := [], args := [] }

/-- 'gunwalelaw07.FieldFits': WHATEVER THE INPUT: true; the input reads as it did. -/
def fieldFitsSpec : ChangeSpec := { name := "fieldFits", fn := fun _ => fun
  | [d1, d2] => { results := [.lit (.bool true)], args := [d1, d2] }
  | _ => none }
def fieldFitsRow : OpenClaim := { program := "ytcicjbcgnkbffaa", sum := "9daaf24c6ca94e3625507ef19b1d08dbb524d637698c5aadd84910cf7351ffc8", func := "gunwale/gunwalelaw07.FieldFits", spec := "fieldFits", apart := false }
def FieldFitsSaid : Prop := fieldFitsRow.holds Try.pinned (OpenSpec.ofChange fieldFitsSpec)

/-- ITS FALSE NEIGHBOUR: 'it returns false'. Refute it at one input. -/
def fieldFitsWrong : ChangeSpec := { name := "fieldFits", fn := fun _ => fun
  | [d1, d2] => { results := [.lit (.bool false)], args := [d1, d2] }
  | _ => none }
def FieldFitsWrongFalsely : Prop := fieldFitsRow.holds Try.pinned (OpenSpec.ofChange fieldFitsWrong)

/-- 'gunwalelaw07.FieldTells': WHATEVER THE INPUT: true; the input reads as it did. -/
def fieldTellsSpec : ChangeSpec := { name := "fieldTells", fn := fun _ => fun
  | [d1, d2] => { results := [.lit (.bool true)], args := [d1, d2] }
  | _ => none }
def fieldTellsRow : OpenClaim := { program := "ytcicjbcgnkbffaa", sum := "9daaf24c6ca94e3625507ef19b1d08dbb524d637698c5aadd84910cf7351ffc8", func := "gunwale/gunwalelaw07.FieldTells", spec := "fieldTells", recurses := true, apart := false }
def FieldTellsSaid : Prop := fieldTellsRow.holds Try.pinned (OpenSpec.ofChange fieldTellsSpec)

/-- ITS FALSE NEIGHBOUR: 'it returns false'. Refute it at one input. -/
def fieldTellsWrong : ChangeSpec := { name := "fieldTells", fn := fun _ => fun
  | [d1, d2] => { results := [.lit (.bool false)], args := [d1, d2] }
  | _ => none }
def FieldTellsWrongFalsely : Prop := fieldTellsRow.holds Try.pinned (OpenSpec.ofChange fieldTellsWrong)

/-- 'gunwalelaw07.FieldNeeds': WHATEVER THE INPUT: true; the input reads as it did. -/
def fieldNeedsSpec : ChangeSpec := { name := "fieldNeeds", fn := fun _ => fun
  | [d] => { results := [.lit (.bool true)], args := [d] }
  | _ => none }
def fieldNeedsRow : OpenClaim := { program := "ytcicjbcgnkbffaa", sum := "9daaf24c6ca94e3625507ef19b1d08dbb524d637698c5aadd84910cf7351ffc8", func := "gunwale/gunwalelaw07.FieldNeeds", spec := "fieldNeeds", apart := false }
def FieldNeedsSaid : Prop := fieldNeedsRow.holds Try.pinned (OpenSpec.ofChange fieldNeedsSpec)

/-- ITS FALSE NEIGHBOUR: 'it returns false'. Refute it at one input. -/
def fieldNeedsWrong : ChangeSpec := { name := "fieldNeeds", fn := fun _ => fun
  | [d] => { results := [.lit (.bool false)], args := [d] }
  | _ => none }
def FieldNeedsWrongFalsely : Prop := fieldNeedsRow.holds Try.pinned (OpenSpec.ofChange fieldNeedsWrong)

/- THE SECOND FORM. 'bulk': how many values and letters a reading holds, each counted each time it is reached (what is shared counts as often as it is met; a slice's spare places count too). A statement '..UptoSaid' is the law's where the arguments, and the package variables that the reading takes, are together of bulk at most 1048576: NARROWER than '..Said'. Prove '..Said' where nothing that the law and all that it calls make is longer than what came in: it says more and counts as full. Else prove '..UptoSaid'. A law counts once. -/
mutual
def uptoBulk {H : Type} : DataW H → Nat
  | .lit (.string bytes) => bytes.length + 1
  | .lit _ => 1
  | .nil => 1
  | .ptr d => uptoBulk d + 1
  | .slice elems spare => uptoBulkAll elems + uptoBulkAll spare + 1
  | .agg parts => uptoBulkAll parts + 1
  | .iface _ d => uptoBulk d + 1
  | .map entries => uptoBulkEntries entries + 1
  | .held _ => 1
def uptoBulkAll {H : Type} : List (DataW H) → Nat
  | [] => 0
  | d :: r => uptoBulk d + uptoBulkAll r
def uptoBulkEntries {H : Type} : List (Lit × DataW H) → Nat
  | [] => 0
  | x :: r => uptoBulkEntry x + uptoBulkEntries r
def uptoBulkEntry {H : Type} : Lit × DataW H → Nat
  | (.string bytes, d) => bytes.length + uptoBulk d + 1
  | (_, d) => uptoBulk d + 1
 end
def uptoSmall : (H : Type) → List (DataW H) → Bool := fun _ ds => decide (uptoBulkAll ds ≤ 1048576)
def OpenSpec.upto (s : _root_.Go.ChangeSpec) : _root_.Go.OpenSpec := { _root_.Go.OpenSpec.ofChange s with cond := some uptoSmall }

/-- 'gunwalelaw07.FieldFits', WHERE WHAT IT READS IS OF BULK AT MOST 1048576: true; the input reads as it did. -/
def fieldFitsUptoRow : OpenClaim := { program := "ytcicjbcgnkbffaa", sum := "9daaf24c6ca94e3625507ef19b1d08dbb524d637698c5aadd84910cf7351ffc8", func := "gunwale/gunwalelaw07.FieldFits", spec := "fieldFits", apart := false, narrowed := true }
def FieldFitsUptoSaid : Prop := fieldFitsUptoRow.holds Try.pinned (OpenSpec.upto fieldFitsSpec)

/-- 'gunwalelaw07.FieldTells', WHERE WHAT IT READS IS OF BULK AT MOST 1048576: true; the input reads as it did. -/
def fieldTellsUptoRow : OpenClaim := { program := "ytcicjbcgnkbffaa", sum := "9daaf24c6ca94e3625507ef19b1d08dbb524d637698c5aadd84910cf7351ffc8", func := "gunwale/gunwalelaw07.FieldTells", spec := "fieldTells", recurses := true, apart := false, narrowed := true }
def FieldTellsUptoSaid : Prop := fieldTellsUptoRow.holds Try.pinned (OpenSpec.upto fieldTellsSpec)

/-- 'gunwalelaw07.FieldNeeds', WHERE WHAT IT READS IS OF BULK AT MOST 1048576: true; the input reads as it did. -/
def fieldNeedsUptoRow : OpenClaim := { program := "ytcicjbcgnkbffaa", sum := "9daaf24c6ca94e3625507ef19b1d08dbb524d637698c5aadd84910cf7351ffc8", func := "gunwale/gunwalelaw07.FieldNeeds", spec := "fieldNeeds", apart := false, narrowed := true }
def FieldNeedsUptoSaid : Prop := fieldNeedsUptoRow.holds Try.pinned (OpenSpec.upto fieldNeedsSpec)

end Rows
end Go.Proofs.Ytcicjbcgnkbffaa
