/- Contracts of functions of the given program, told by plain Lean functions. No condition. -/
import Derived.Test.YtgljcfbcdniffaaDoorProg
import Derived.Test.YtgljcfbcdniffaaDoorESum
import Derived.KernelRfl
import Derived.Test.YtgljcfbcdniffaaDoorOA
namespace Go.Eng
open Go.Proofs
set_option linter.unusedVariables false
set_option linter.unusedSimpArgs false
set_option maxRecDepth 100000
set_option maxHeartbeats 1000000
def rE (b : List Int) : Int := if b.length < 4 then 1026 else if ofOk (decC b) (decF b) = false then 1031 else if decH b = true ∧ ofMask (decC b) (decF b) = false then 1033 else if decK b = false ∨ (b.length : Int) - 4 < b.getD 3 0 then 1026 else refW (decC b) (decF b) (decH b) (decV b) (decM b)
def rI (b : List Int) (x : Int) : Int := if rE b = 0 then x else 0
def rR (b : List Int) (l : List Int) : List Int := if rE b = 0 then l else []
theorem sizeR_le (f : Int) : 0 ≤ sizeR f ∧ sizeR f ≤ 16 := by
  cases h : fIs f with
  | true =>
    have hn := fIs_t.1 h
    have := tab_le f.toNat (by omega)
    rw [Int.toNat_of_nonneg hn.1] at this
    omega
  | false => unfold sizeR; rw [h]; exact ⟨Int.le_refl _, show (0 : Int) ≤ 16 by decide⟩
theorem lawK8 : ∀ k < 40, fBits (k : Nat) = bitsR (k : Nat) ∧ fSize (k : Nat) = sizeR (k : Nat) ∧ fMask (k : Nat) = maskR (k : Nat) := by decide +kernel
theorem law8 (f : Int) : fBits f = bitsR f ∧ fSize f = sizeR f ∧ fMask f = maskR f := by
  cases h : fIs f with
  | true =>
    have hn := fIs_t.1 h
    have := lawK8 f.toNat (by omega)
    rwa [Int.toNat_of_nonneg hn.1] at this
  | false =>
    unfold fBits bitsR fSize sizeR fMask maskR; rw [h]; exact ⟨rfl, rfl, rfl⟩
theorem kB {b : List Int} (hc : decC b = 32768) : ofOk (decC b) (decF b) = fIs (decF b) ∧ ofMask (decC b) (decF b) = maskR (decF b) ∧ decA b = 4 ∧ decX b = 0 ∧ decS b = sizeR (decF b) ∧ decK b = decide (b.getD 3 0 = (if decH b = true then 2 else 1) * sizeR (decF b)) := by
  have hl := law8 (decF b)
  have hz : ofSize (decC b) (decF b) = sizeR (decF b) := by unfold ofSize; rw [if_neg (by omega)]; exact hl.2.1
  have he : ofExtra (decC b) = false := decide_eq_false (by omega)
  refine ⟨?_, ?_, if_neg (by omega), if_neg (by omega), ?_, ?_⟩
  · unfold ofOk; rw [if_neg (by omega), decide_eq_true hc, Bool.and_true]
  · unfold ofMask; rw [if_neg (by omega)]; exact hl.2.2
  · unfold decS longS; rw [he, hz]; rfl
  · unfold decK longK; rw [he, hz]; rfl
theorem kE {b : List Int} (hc : decC b = 65535) (hf : 0 ≤ decF b ∧ decF b ≤ 127) : ofOk (decC b) (decF b) = true ∧ ofMask (decC b) (decF b) = true ∧ decA b = 8 ∧ decX b = numL ((b.drop 4).take 4) ∧ decS b = (b.getD 3 0 - 4).tdiv (if decH b = true then 2 else 1) ∧ decK b = (decide (0 ≤ b.getD 3 0 - 4) && decide ((b.getD 3 0 - 4).tmod (if decH b = true then 2 else 1) = 0) && decide ((b.getD 3 0 - 4).tdiv (if decH b = true then 2 else 1) ≤ 100)) := by
  have hz : ofSize (decC b) (decF b) = 100 := if_pos hc
  have he : ofExtra (decC b) = true := decide_eq_true hc
  refine ⟨?_, if_pos hc, if_pos hc, if_pos hc, ?_, ?_⟩
  · unfold ofOk; rw [if_pos hc, decide_eq_true hf.1, decide_eq_true hf.2]; rfl
  · unfold decS longS; rw [he]; rfl
  · unfold decK longK; rw [he, hz]; rfl
theorem rE_ok {b : List Int} (h4 : ¬ b.length < 4) (hok : ofOk (decC b) (decF b) = true) (hm : decH b = true → ofMask (decC b) (decF b) = true) (hk : decK b = true) (hl : ¬ (b.length : Int) - 4 < b.getD 3 0) : rE b = refW (decC b) (decF b) (decH b) (decV b) (decM b) := by
  unfold rE
  rw [if_neg h4, if_neg (by rw [hok]; decide), if_neg (fun h => by rw [hm h.1] at h; exact absurd h.2 (by decide)), if_neg (fun h => h.elim (by rw [hk]; decide) hl)]
theorem rE_len {b : List Int} (h4 : ¬ b.length < 4) (hok : ofOk (decC b) (decF b) = true) (hm : decH b = true → ofMask (decC b) (decF b) = true) (hk : decK b = false ∨ (b.length : Int) - 4 < b.getD 3 0) : rE b = 1026 := by
  unfold rE
  rw [if_neg h4, if_neg (by rw [hok]; decide), if_neg (fun h => by rw [hm h.1] at h; exact absurd h.2 (by decide)), if_pos hk]
end Go.Eng
