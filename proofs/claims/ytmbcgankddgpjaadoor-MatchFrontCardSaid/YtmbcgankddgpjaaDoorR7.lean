/- Contracts of functions of the given program, told by plain Lean functions. No condition. -/
import Derived.Test.YtmbcgankddgpjaaDoorProg
import Derived.Test.YtmbcgankddgpjaaDoorEArg
import Derived.KernelRfl
import Derived.Test.YtmbcgankddgpjaaDoorR4
namespace Go.Eng
open Go.Proofs
set_option linter.unusedVariables false
set_option linter.unusedSimpArgs false
set_option maxRecDepth 100000
set_option maxHeartbeats 1000000
theorem shl_div : ∀ k : Nat, k ≤ 7 → ∀ x : Int, 0 ≤ x → (x < (2 ^ (8 * k) : Nat) ↔ x.fdiv (2 ^ (8 * k)) = 0)
  | k, _, x, hx => by
    have hp : (0 : Int) < 2 ^ (8 * k) := Int.pow_pos (by decide)
    have e : ((2 ^ (8 * k) : Nat) : Int) = 2 ^ (8 * k) := by push_cast; rfl
    rw [e, Int.fdiv_eq_ediv_of_nonneg _ (Int.le_of_lt hp)]
    constructor
    · intro h; exact Int.ediv_eq_zero_of_lt hx h
    · intro h
      have := Int.lt_ediv_add_one_mul_self x hp
      rw [h] at this; omega
def fitsN (x n : Int) : Bool := decide (n = 8) || decide (x.fdiv (2 ^ (min (8 * n).toNat 64)) = 0)
theorem fits_eq {x : Int} (hx : 0 ≤ x) : ∀ k : Nat, 1 ≤ k → k ≤ 7 → decide (x < 1 * 2 ^ min (8 * (k : Int)).toNat IntKind.u64.bits) = fitsN x k
  | k, h1, h7 => by
    have e : min (8 * (k : Int)).toNat IntKind.u64.bits = 8 * k := by
      have : IntKind.u64.bits = 64 := rfl
      rw [this]; omega
    have e' : min (8 * (k : Int)).toNat 64 = 8 * k := by omega
    unfold fitsN
    rw [e, e', decide_eq_false (show ¬ (k : Int) = 8 by omega), Bool.false_or, Int.one_mul]
    rw [decide_eq_decide]
    have := shl_div k h7 x hx
    push_cast at this
    exact this
theorem fitsN_put {x n : Int} : fitsN x n = false → n ≤ 8 → (n < 8 ∧ x.fdiv (2 ^ (min (8 * n).toNat 64)) ≠ 0) := fun h h8 => by
  unfold fitsN at h
  simp only [Bool.or_eq_false_iff, decide_eq_false_iff_not] at h
  exact ⟨by omega, h.2⟩
theorem fitsN_ok {x n : Int} : fitsN x n = true → ¬ (n < 8 ∧ x.fdiv (2 ^ (min (8 * n).toNat 64)) ≠ 0) := fun h k => by
  unfold fitsN at h
  simp only [Bool.or_eq_true, decide_eq_true_eq] at h
  rcases h with h | h
  · omega
  · exact k.2 h
theorem bytesN_zero (w : Int) : List.replicate w.toNat 0 = bytesN 0 w := by
  have : ∀ j : Nat, byteAt 0 w j = 0 := fun j => by unfold byteAt; rw [Int.zero_fdiv]; rfl
  unfold bytesN bytesT
  simp only [this, List.map_const', List.length_range]
theorem slice_eq {α : Type} (b : List α) (p : Nat) {n : Int} (h : 0 ≤ n) : (b.take ((p : Int) + n).toNat).drop p = (b.drop p).take n.toNat := by
  have e : ((p : Int) + n).toNat = p + n.toNat := by omega
  rw [e, List.drop_take]; congr 1; omega
theorem zeroT_step {b : List Int} {p k : Nat} (h : k < b.length) (hz : zeroL ((b.drop p).take (k - p)) = true) (hp : p ≤ k) (e : b.getD k 0 = 0) : zeroL ((b.drop p).take (k + 1 - p)) = true := by
  have hk : k - p < (b.drop p).length := by rw [List.length_drop]; omega
  rw [show k + 1 - p = (k - p) + 1 by omega, List.take_succ_eq_append_getElem hk]
  unfold zeroL at hz ⊢
  rw [List.all_append, hz, Bool.true_and, List.getElem_drop]
  have : b[p + (k - p)]'(by omega) = b.getD k 0 := by
    rw [List.getD_eq_getElem?_getD, List.getElem?_eq_getElem h, Option.getD_some]; congr 1; omega
  rw [List.all_cons, List.all_nil, this, e]; rfl
theorem zeroT_odd {b : List Int} {p k n : Nat} (h : k < b.length) (hp : p ≤ k) (hk : k < p + n) (e : ¬ b.getD k 0 = 0) : zeroL ((b.drop p).take n) = false := by
  unfold zeroL
  rw [List.all_eq_false]
  refine ⟨b.getD k 0, ?_, by simpa using e⟩
  rw [List.mem_take_iff_getElem]
  refine ⟨k - p, by rw [List.length_drop]; omega, ?_⟩
  rw [List.getElem_drop, List.getD_eq_getElem?_getD, List.getElem?_eq_getElem h, Option.getD_some]
  congr 1; omega
end Go.Eng
