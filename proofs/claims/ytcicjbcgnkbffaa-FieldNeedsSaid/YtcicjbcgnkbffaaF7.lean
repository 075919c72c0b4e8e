/- Contracts of functions of the given program, told by plain Lean functions. No condition. -/
import Derived.Test.YtcicjbcgnkbffaaF6
namespace Go.Eng
open Go.Proofs
set_option linter.unusedVariables false
set_option linter.unusedSimpArgs false
set_option maxRecDepth 100000
set_option maxHeartbeats 1000000
theorem take_step {α : Type} {a b : List α} {d : α} {i : Nat} (h : a.take i = b.take i) (hi : i < a.length) (hl : a.length = b.length) (e : a.getD i d = b.getD i d) : a.take (i + 1) = b.take (i + 1) := by
  have hb : i < b.length := by omega
  rw [List.getD_eq_getElem?_getD, List.getD_eq_getElem?_getD, List.getElem?_eq_getElem hi, List.getElem?_eq_getElem hb] at e
  rw [List.take_succ_eq_append_getElem hi, List.take_succ_eq_append_getElem hb, h, show a[i] = b[i] from e]
theorem take_all {α : Type} {a b : List α} {i : Nat} (h : a.take i = b.take i) (hi : a.length ≤ i) (hl : a.length = b.length) : a = b := by
  rwa [List.take_of_length_le hi, List.take_of_length_le (by omega)] at h
theorem take_ne {α : Type} {a b : List α} {d : α} {i : Nat} (e : ¬ a.getD i d = b.getD i d) : a ≠ b := fun h => e (by rw [h])
def sameF (b1 s1 : Int) (m1 : Bool) (n1 : Int) (v1 : List Int) (b2 s2 : Int) (m2 : Bool) (n2 : Int) (v2 : List Int) : Bool := decide (b1 = b2) && decide (s1 = s2) && (m1 == m2) && decide (n1 = n2) && decide (v1 = v2)
end Go.Eng
