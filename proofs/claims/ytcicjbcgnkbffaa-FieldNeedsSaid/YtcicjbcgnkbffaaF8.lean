/- Contracts of functions of the given program, told by plain Lean functions. No condition. -/
import Derived.Test.YtcicjbcgnkbffaaF7
namespace Go.Eng
open Go.Proofs
set_option linter.unusedVariables false
set_option linter.unusedSimpArgs false
set_option maxRecDepth 100000
set_option maxHeartbeats 1000000
theorem lawK : ∀ k < 40, fBits (k : Nat) = bitsR (k : Nat) ∧ fSize (k : Nat) = sizeR (k : Nat) ∧ fMask (k : Nat) = maskR (k : Nat) ∧ fNeed (k : Nat) = needR (k : Nat) ∧ fVals (k : Nat) = valsR (k : Nat) ∧ nameF (k : Nat) = nameR (k : Nat) ∧ needsF (k : Nat) = needsR (k : Nat) := by decide +kernel
theorem lawT (n : Int) : fBits n = bitsR n ∧ fSize n = sizeR n ∧ fMask n = maskR n ∧ fNeed n = needR n ∧ fVals n = valsR n ∧ nameF n = nameR n ∧ needsF n = needsR n := by
  cases h : fIs n with
  | true =>
    have hn := fIs_t.1 h
    have := lawK n.toNat (by omega)
    rwa [Int.toNat_of_nonneg hn.1] at this
  | false =>
    have hr : recB n = false := by unfold recB; rw [h]; rfl
    unfold fBits bitsR fSize sizeR fMask maskR fNeed needR fVals valsR nameF nameR needsF
    rw [recs_out hr, if_neg (fIs_f.1 h), h]
    exact ⟨rfl, rfl, rfl, rfl, rfl, rfl, rfl⟩
theorem needs_le {n : Int} : (needsR n).length ≤ 3 := by
  cases h : recB n with
  | true => exact (recs_in h).2.2.2.2
  | false => rw [recs_out h]; exact Nat.zero_le _
end Go.Eng
