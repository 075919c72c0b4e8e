/- Contracts of functions of the given program, told by plain Lean functions. No condition. -/
import Derived.Test.YtcicjbcgnkbffaaF5
namespace Go.Eng
open Go.Proofs
set_option linter.unusedVariables false
set_option linter.unusedSimpArgs false
set_option maxRecDepth 100000
set_option maxHeartbeats 1000000
theorem tabName : ∀ i < 40, (tab.getD i fieldT.dflt).1 = namesL.getD i [] := by decide +kernel
theorem namesLen : namesL.length = 40 := rfl
def recB (n : Int) : Bool := fIs n && decide (0 ≤ needR n)
def needsRf : Nat → Int → List Int
  | 0, _ => []
  | k + 1, n => match recB n with | true => needsRf k (needR n) ++ [needR n] | false => []
def needsR (n : Int) : List Int := needsRf 4 n
theorem recs : ∀ k < 40, recB (k : Nat) = true → 0 ≤ needR (k : Nat) ∧ needR (k : Nat) < (k : Nat) ∧ needsR (k : Nat) = needsR (needR (k : Nat)) ++ [needR (k : Nat)] ∧ (needsR (k : Nat)).length ≤ 3 := by decide +kernel
theorem recs_in {n : Int} (h : recB n = true) : 0 ≤ n ∧ 0 ≤ needR n ∧ needR n < n ∧ needsR n = needsR (needR n) ++ [needR n] ∧ (needsR n).length ≤ 3 := by
  have h0 : fIs n = true := by unfold recB at h; simp at h; exact h.1
  have h1 := fIs_t.1 h0
  have := recs n.toNat (by omega)
  rw [Int.toNat_of_nonneg h1.1] at this
  exact ⟨h1.1, this h⟩
theorem recs_out {n : Int} (h : recB n = false) : needsR n = [] := by unfold needsR needsRf; rw [h]
def W_r07_Needs : List AV → List Obj → Option (Prop × Res)
  | [.int .i64 n], [] => some (True, .br (recB n) (.one (.own 0) [.row false (.int .i64) (needsR n)]) (.one .nils []))
  | _, _ => none
end Go.Eng
