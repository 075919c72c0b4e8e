/- Contracts of functions of the given program, told by plain Lean functions. No condition. -/
import Derived.Test.YtmbcgankddgpjaaDoorProg
import Derived.Test.YtmbcgankddgpjaaDoorEArg
import Derived.KernelRfl
import Derived.Test.YtmbcgankddgpjaaDoorM7
import Derived.Test.YtmbcgankddgpjaaDoorOA
namespace Go.Eng
open Go.Proofs
set_option linter.unusedVariables false
set_option linter.unusedSimpArgs false
set_option maxRecDepth 100000
set_option maxHeartbeats 1000000
def mtL (b : List Int) (p e : Int) : List OV := if e = 0 then mdL (b.drop p.toNat) else []
def mtP (b : List Int) (p e : Int) : Int := if e = 0 then p + mdN (b.drop p.toNat) else p
def mtE (b : List Int) (p e : Int) : Int := if e = 0 then mdE (b.drop p.toNat) else e
theorem mdN_le (b : List Int) (hb : ∀ x ∈ b, 0 ≤ x ∧ x ≤ 255) : 0 ≤ mdN b ∧ mdN b ≤ b.length := by
  have hn2 : 0 ≤ tN b ∧ tN b ≤ 65535 := num2_le (a := 2) hb
  have hz := pz_le hn2.1
  unfold mdN; split
  · rename_i h
    unfold mdE at h
    split at h
    · cases h
    · split at h
      · cases h
      · split at h
        · cases h
        · omega
  · omega
theorem vR_eq {y : List Int} (h : rE y = 0) : ((rI y (decC y), rI y (decF y), (if rE y = 0 then decH y else false), rI y (decX y), rR y (decV y), rR y (decM y), ()) : OV) = vO y := by
  unfold rI rR vO; simp only [if_pos h]
theorem zT_step {b : List Int} {i m : Nat} (h : i < b.length) (hm : 0 < m) : zeroL ((b.drop i).take m) = (decide (b.getD i 0 = 0) && zeroL ((b.drop (i + 1)).take (m - 1))) := by
  obtain ⟨k, rfl⟩ : ∃ k, m = k + 1 := ⟨m - 1, by omega⟩
  rw [drop_step h 0, List.take_succ_cons]; rfl
theorem md_in {b : List Int} (h4 : ¬ b.length < 4) (ht : tT b = 1) (hr : ¬ (tN b < 4 ∨ 65528 < tN b ∨ b.length < tN b + pz (tN b))) : mdE b = if ¬ (mlG [] (bd b)).2 = 0 then (mlG [] (bd b)).2 else if mdZ b = true then 0 else 1026 := by
  unfold mdE; rw [if_neg h4, if_neg (not_not_intro ht), if_neg hr]
theorem md_list {b : List Int} {e : Int} (h4 : ¬ b.length < 4) (ht : tT b = 1) (hr : ¬ (tN b < 4 ∨ 65528 < tN b ∨ b.length < tN b + pz (tN b))) (he : (mlG [] (bd b)).2 = e) (h0 : ¬ e = 0) : mdE b = e ∧ mdL b = [] ∧ mdN b = 0 := by
  have h := md_in h4 ht hr
  rw [he, if_pos h0] at h
  exact ⟨h, md_bad h h0⟩
end Go.Eng
