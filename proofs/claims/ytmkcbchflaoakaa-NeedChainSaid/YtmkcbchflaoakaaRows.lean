/-
  No cell of these rows narrows 'for every input' (looked for: loops, veiled, ifaces, maps, wideKeys, modest, calm, conditions, laid).
  DERIVED. THE GIVEN ROWS OF THIS SEAT. 3 by the template 'for every input the law returns true; each argument reads behind the call as it read before'; 0 by the template 'total and deterministic' (their statements: YtmkcbchflaoakaaTotals.lean).
  GIVEN WITH THE SEED: the statements are not yours to turn. If you find one false, say at which input.
  Laid BY PROGRAM, IN A SANDBOX (cutbox-rows.mjs): the forced cells as the released guide's own fill.sh prints them over the translation cabac3d4198091fc… (all of the seat's roots in one cut). By AI agents, Wed Nov 11 2026. No macro, syntax, notation, axiom, sorry.
-/
import Derived.Test.YtmkcbchflaoakaaChecked
import GoSem.Claim
import GoSem.ClaimJoined
import GoSem.ClaimMapViews
import Derived.JoinedTies
import Derived.KernelRfl
namespace Go.Proofs.Ytmkcbchflaoakaa
/- THE CELL 'sum', in the pinned program and in every row, IS THE sha256 OF THE DUMP (.gsa) THAT YtmkcbchflaoakaaProg.lean LOADS. Nothing in Lean hashes anything: it is a label: what it is worth is what the hold of that sum in a sandbox is worth. -/
noncomputable def Try.pinned : Pinned := { name := "ytmkcbchflaoakaa", sum := "cabac3d4198091fc4898dd0770e4b60b94b912f6cdc9a36f28fcffd3a71c14f1", checked := Try.checked }
namespace Rows
def none {H : Type} : Left H := { results := [], args := [] }

/-- 'gunwalelaw09.NeedTells': WHATEVER THE INPUT: true; the input reads as it did. -/
def needTellsSpec : ChangeSpec := { name := "needTells", fn := fun _ => fun
  | [d1, d2] => { results := [.lit (.bool true)], args := [d1, d2] }
  | _ => none }
def needTellsRow : OpenClaim := { program := "ytmkcbchflaoakaa", sum := "cabac3d4198091fc4898dd0770e4b60b94b912f6cdc9a36f28fcffd3a71c14f1", func := "gunwale/gunwalelaw09.NeedTells", spec := "needTells", unfollowed := true, recurses := true, apart := false }
def NeedTellsSaid : Prop := needTellsRow.holds Try.pinned (OpenSpec.ofChange needTellsSpec)

/-- ITS FALSE NEIGHBOUR: 'it returns false'. Refute it at one input. -/
def needTellsWrong : ChangeSpec := { name := "needTells", fn := fun _ => fun
  | [d1, d2] => { results := [.lit (.bool false)], args := [d1, d2] }
  | _ => none }
def NeedTellsWrongFalsely : Prop := needTellsRow.holds Try.pinned (OpenSpec.ofChange needTellsWrong)

/-- 'gunwalelaw09.NeedSorted': WHATEVER THE INPUT: true; the input reads as it did. -/
def needSortedSpec : ChangeSpec := { name := "needSorted", fn := fun _ => fun
  | [d] => { results := [.lit (.bool true)], args := [d] }
  | _ => none }
def needSortedRow : OpenClaim := { program := "ytmkcbchflaoakaa", sum := "cabac3d4198091fc4898dd0770e4b60b94b912f6cdc9a36f28fcffd3a71c14f1", func := "gunwale/gunwalelaw09.NeedSorted", spec := "needSorted", unfollowed := true, recurses := true, apart := false }
def NeedSortedSaid : Prop := needSortedRow.holds Try.pinned (OpenSpec.ofChange needSortedSpec)

/-- ITS FALSE NEIGHBOUR: 'it returns false'. Refute it at one input. -/
def needSortedWrong : ChangeSpec := { name := "needSorted", fn := fun _ => fun
  | [d] => { results := [.lit (.bool false)], args := [d] }
  | _ => none }
def NeedSortedWrongFalsely : Prop := needSortedRow.holds Try.pinned (OpenSpec.ofChange needSortedWrong)

/-- 'gunwalelaw09.NeedChain': WHATEVER THE INPUT: true; the input reads as it did. -/
def needChainSpec : ChangeSpec := { name := "needChain", fn := fun _ => fun
  | [d1, d2] => { results := [.lit (.bool true)], args := [d1, d2] }
  | _ => none }
def needChainRow : OpenClaim := { program := "ytmkcbchflaoakaa", sum := "cabac3d4198091fc4898dd0770e4b60b94b912f6cdc9a36f28fcffd3a71c14f1", func := "gunwale/gunwalelaw09.NeedChain", spec := "needChain", unfollowed := true, recurses := true, apart := false }
def NeedChainSaid : Prop := needChainRow.holds Try.pinned (OpenSpec.ofChange needChainSpec)

/-- ITS FALSE NEIGHBOUR: 'it returns false'. Refute it at one input. -/
def needChainWrong : ChangeSpec := { name := "needChain", fn := fun _ => fun
  | [d1, d2] => { results := [.lit (.bool false)], args := [d1, d2] }
  | _ => none }
def NeedChainWrongFalsely : Prop := needChainRow.holds Try.pinned (OpenSpec.ofChange needChainWrong)

/- THE SECOND FORM. 'bulk': how many values and letters a reading holds, each counted each time it is reached (what is shared counts as often as it is met; a slice's spare places count too). A statement '..UptoSaid' is the law's where the arguments, and the package variables that the reading takes, are together of bulk at most 1048576: NARROWER than '..Said'. Prove '..Said' where nothing that the law and all that it calls make is longer than what came in: it says more and counts as full. Else prove '..UptoSaid'. A law counts once. -/
mutual
def uptoBulk {H : Type} : DataW H → Nat
  | .lit (.string bytes) => bytes.length + 1
  | .lit _ => 1
  | .nil => 1
  | .ptr d => uptoBulk d + 1
  | .slice elems spare => uptoBulkAll elems + uptoBulkAll spare + 1
  | .agg parts => uptoBulkAll parts + 1
  | .iface _ d => uptoBulk d + 1
  | .map entries => uptoBulkEntries entries + 1
  | .held _ => 1
def uptoBulkAll {H : Type} : List (DataW H) → Nat
  | [] => 0
  | d :: r => uptoBulk d + uptoBulkAll r
def uptoBulkEntries {H : Type} : List (Lit × DataW H) → Nat
  | [] => 0
  | x :: r => uptoBulkEntry x + uptoBulkEntries r
def uptoBulkEntry {H : Type} : Lit × DataW H → Nat
  | (.string bytes, d) => bytes.length + uptoBulk d + 1
  | (_, d) => uptoBulk d + 1
 end
def uptoSmall : (H : Type) → List (DataW H) → Bool := fun _ ds => decide (uptoBulkAll ds ≤ 1048576)
def OpenSpec.upto (s : _root_.Go.ChangeSpec) : _root_.Go.OpenSpec := { _root_.Go.OpenSpec.ofChange s with cond := some uptoSmall }

/-- 'gunwalelaw09.NeedTells', WHERE WHAT IT READS IS OF BULK AT MOST 1048576: true; the input reads as it did. -/
def needTellsUptoRow : OpenClaim := { program := "ytmkcbchflaoakaa", sum := "cabac3d4198091fc4898dd0770e4b60b94b912f6cdc9a36f28fcffd3a71c14f1", func := "gunwale/gunwalelaw09.NeedTells", spec := "needTells", unfollowed := true, recurses := true, apart := false, narrowed := true }
def NeedTellsUptoSaid : Prop := needTellsUptoRow.holds Try.pinned (OpenSpec.upto needTellsSpec)

/-- 'gunwalelaw09.NeedSorted', WHERE WHAT IT READS IS OF BULK AT MOST 1048576: true; the input reads as it did. -/
def needSortedUptoRow : OpenClaim := { program := "ytmkcbchflaoakaa", sum := "cabac3d4198091fc4898dd0770e4b60b94b912f6cdc9a36f28fcffd3a71c14f1", func := "gunwale/gunwalelaw09.NeedSorted", spec := "needSorted", unfollowed := true, recurses := true, apart := false, narrowed := true }
def NeedSortedUptoSaid : Prop := needSortedUptoRow.holds Try.pinned (OpenSpec.upto needSortedSpec)

/-- 'gunwalelaw09.NeedChain', WHERE WHAT IT READS IS OF BULK AT MOST 1048576: true; the input reads as it did. -/
def needChainUptoRow : OpenClaim := { program := "ytmkcbchflaoakaa", sum := "cabac3d4198091fc4898dd0770e4b60b94b912f6cdc9a36f28fcffd3a71c14f1", func := "gunwale/gunwalelaw09.NeedChain", spec := "needChain", unfollowed := true, recurses := true, apart := false, narrowed := true }
def NeedChainUptoSaid : Prop := needChainUptoRow.holds Try.pinned (OpenSpec.upto needChainSpec)

end Rows
end Go.Proofs.Ytmkcbchflaoakaa
