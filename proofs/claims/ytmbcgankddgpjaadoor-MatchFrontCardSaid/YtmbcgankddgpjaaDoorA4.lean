/- Contracts of functions of the given program, told by plain Lean functions. No condition. -/
import Derived.Test.YtmbcgankddgpjaaDoorProg
import Derived.Test.YtmbcgankddgpjaaDoorEArg
import Derived.KernelRfl
import Derived.Test.YtmbcgankddgpjaaDoorA3
namespace Go.Eng
open Go.Proofs
set_option linter.unusedVariables false
set_option linter.unusedSimpArgs false
set_option maxRecDepth 100000
set_option maxHeartbeats 1000000
theorem get22 (b : List Int) : getF [2, 2] b = if b.length < 4 then ([], 1) else ([numL (b.take 2), numL ((b.drop 2).take 2)], 0) := by
  have hr : rightF [2, 2] = true := by decide
  unfold getF
  rw [if_pos hr]
  have a2 : absI 2 = 2 := by decide
  have t2 : Int.toNat 2 = 2 := rfl
  have p2 : (0 : Int) < 2 := by decide
  simp only [getA, a2, t2, if_pos p2, List.length_drop]
  by_cases h : b.length < 4
  · rw [if_pos h]
    by_cases h2 : (b.length : Int) < 2
    · rw [if_pos h2]
    · rw [if_neg h2, if_pos (by omega)]
  · rw [if_neg h, if_neg (by omega), if_neg (by omega)]; rfl
def tT (b : List Int) : Int := numL (b.take 2)
def tN (b : List Int) : Int := numL ((b.drop 2).take 2)
def tlE (b : List Int) (least step bad : Int) : Int := if b.length < 4 then bad else if tN b < least ∨ ¬ (tN b).tmod step = 0 then bad else if (b.length : Int) < tN b then bad else 0
def tlI (b : List Int) (least step bad x : Int) : Int := if tlE b least step bad = 0 then x else 0
def tlR (b : List Int) (least step bad : Int) : List Int := if tlE b least step bad = 0 then (b.take (tN b).toNat).drop 4 else []
theorem num2_le {b : List Int} {a : Nat} (hb : ∀ x ∈ b, 0 ≤ x ∧ x ≤ 255) : 0 ≤ numL ((b.drop a).take 2) ∧ numL ((b.drop a).take 2) ≤ 65535 := by
  have h := numL_le ((b.drop a).take 2) fun x hx => hb x (List.mem_of_mem_drop (List.mem_of_mem_take hx))
  have hl : ((b.drop a).take 2).length ≤ 2 := by rw [List.length_take]; omega
  have hp : ∀ k ≤ 2, (256 : Int) ^ k ≤ 65536 := by decide
  have := hp _ hl
  omega
def bd (b : List Int) : List Int := (b.take (tN b).toNat).drop 4
theorem bd_le {b : List Int} (hb : ∀ x ∈ b, 0 ≤ x ∧ x ≤ 255) : (bd b).length ≤ 65535 := by
  have := num2_le (a := 2) hb
  unfold bd tN; rw [List.length_drop, List.length_take]; omega
theorem cur22 {b : List Int} {sh od : Int} : curL [2, 2] b 0 0 = (if b.length < 4 then [] else [tT b, tN b]) ∧ curP [2, 2] b 0 0 = (if b.length < 4 then 0 else 4) ∧ curE [2, 2] b 0 sh od 0 = (if b.length < 4 then sh else 0) := by
  have e : getF [2, 2] (b.drop (0 : Int).toNat) = if b.length < 4 then ([], 1) else ([tT b, tN b], 0) := by
    rw [show (0 : Int).toNat = 0 from rfl, List.drop_zero, get22]; rfl
  have es : sizeW [2, 2] = 4 := by decide
  unfold curL curP curE getL getK
  rw [e, es]
  by_cases h : b.length < 4
  · simp only [if_pos h]; exact ⟨rfl, rfl, rfl⟩
  · simp only [if_neg h]; exact ⟨rfl, rfl, rfl⟩
end Go.Eng
