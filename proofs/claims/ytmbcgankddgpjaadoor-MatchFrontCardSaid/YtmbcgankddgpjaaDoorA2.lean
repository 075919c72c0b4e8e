/- Contracts of functions of the given program, told by plain Lean functions. No condition. -/
import Derived.Test.YtmbcgankddgpjaaDoorProg
import Derived.Test.YtmbcgankddgpjaaDoorEArg
import Derived.KernelRfl
import Derived.Test.YtmbcgankddgpjaaDoorA1
namespace Go.Eng
open Go.Proofs
set_option linter.unusedVariables false
set_option linter.unusedSimpArgs false
set_option maxRecDepth 100000
set_option maxHeartbeats 1000000
def bodyA (t a b : Int) (E d : List Int) : List Int := if t = 25 then E ++ List.replicate ((8 - (4 + E.length) % 8) % 8) 0 else putB (rowT t) (numsA t a b) ++ d
def encA (t a b : Int) (E d : List Int) : List Int := bytesN t 2 ++ bytesN (4 + (bodyA t a b E d).length) 2 ++ bodyA t a b E d
theorem row22 {a n : Int} (ha : 0 ≤ a ∧ a ≤ 65535) (hn : 0 ≤ n ∧ n ≤ 65535) : putB [2, 2] [a, n] = bytesN a 2 ++ bytesN n 2 ∧ putK [2, 2] [a, n] = true := by
  have e1 : a.fdiv (2 ^ 16) = 0 := by rw [Int.fdiv_eq_ediv_of_nonneg _ (by decide)]; omega
  have e2 : n.fdiv (2 ^ 16) = 0 := by rw [Int.fdiv_eq_ediv_of_nonneg _ (by decide)]; omega
  have h : putF [2, 2] [a, n] = some (bytesN a 2 ++ bytesN n 2) := by
    unfold putF
    rw [if_pos ⟨by decide, (by decide : countW [2, 2] = 2)⟩]
    have m : min (8 * (2 : Int)).toNat 64 = 16 := by decide
    simp only [putA, m]
    rw [if_neg (by decide), if_neg (by rintro ⟨_, h⟩; exact h e1), if_neg (by decide), if_neg (by rintro ⟨_, h⟩; exact h e2)]
    rfl
  unfold putB putK; rw [h]; exact ⟨rfl, rfl⟩
theorem buf_ok {x l : List Int} {room : Int} (h : (x.length : Int) ≤ room - l.length) : bufB x l room 0 = l ++ x ∧ bufE x l room 0 = 0 := by
  have hb : bufOk x l room 0 = true := by unfold bufOk; rw [decide_eq_true h]; rfl
  exact ⟨by unfold bufB; rw [if_pos hb], by unfold bufE; rw [if_pos rfl, if_pos h]⟩
theorem row_ok {w xs l : List Int} {room : Int} (hk : putK w xs = true) (h : ((putB w xs).length : Int) ≤ room - l.length) : rowB w xs l room 0 = l ++ putB w xs ∧ rowE w xs l room 0 = 0 := by
  unfold rowB rowE; rw [if_pos hk, if_pos hk]; exact buf_ok h
theorem bufB_lim {x l : List Int} {room e : Int} (h : l.length ≤ 1000000) (hr : room ≤ 1000000) : (bufB x l room e).length ≤ 1000000 := by
  unfold bufB bufOk; split
  · rename_i hb; simp only [Bool.and_eq_true, decide_eq_true_eq] at hb; rw [List.length_append]; omega
  · exact h
theorem rowB_lim {w xs l : List Int} {room e : Int} (h : l.length ≤ 1000000) (hr : room ≤ 1000000) : (rowB w xs l room e).length ≤ 1000000 := by
  unfold rowB; split
  · exact bufB_lim h hr
  · exact h
theorem putB_size {w xs : List Int} (hk : putK w xs = true) : ((putB w xs).length : Int) = sizeW w := by
  unfold putK at hk
  obtain ⟨r, hr⟩ := Option.isSome_iff_exists.1 hk
  have hb : putB w xs = r := by unfold putB; rw [hr]; rfl
  rw [hb]
  unfold putF at hr
  split at hr
  · rename_i h
    have := putA_len w xs [] r (rightF_t.1 h.1).2 hr
    unfold sizeW; rw [if_pos h.1, this]; simp
  · cases hr
theorem evZ_8 (n : Nat) : evZ 8 n = List.replicate ((8 - n % 8) % 8) 0 := by
  unfold evZ; congr 1
  have h1 : (n : Int).tmod 8 = (n : Int) % 8 := Int.tmod_eq_emod_of_nonneg (by omega)
  rw [h1, Int.tmod_eq_emod_of_nonneg (by omega)]; omega
/-- What may be, told by its parts. -/
theorem rightA_25 {R : Bool} {t a b c f : Int} {h : Bool} {x : Int} {v m d : List Int} (ht : t = 25) (hr : rightA R t a b c f h x v m d = true) : a = 0 ∧ b = 0 ∧ d = [] ∧ c = 32768 ∧ h = false ∧ settF f = true ∧ R = true := by
  unfold rightA at hr; rw [if_pos ht] at hr
  simp only [Bool.and_eq_true, decide_eq_true_eq, Bool.not_eq_true'] at hr
  obtain ⟨⟨⟨h1, h2⟩, h3⟩, ⟨⟨h4, h5⟩, h6⟩, h7⟩ := hr
  exact ⟨h1, h2, List.eq_nil_of_length_eq_zero h3, h4, h5, h6, h7⟩
theorem rightA_row {R : Bool} {t a b c f : Int} {h : Bool} {x : Int} {v m d : List Int} (ht : ¬ t = 25) (hr : rightA R t a b c f h x v m d = true) : rowK t = true ∧ sameO c f h x v m 0 0 false 0 [] [] = true ∧ askF t a = 0 ∧ putK (rowT t) (numsA t a b) = true ∧ (2 ≤ countW (rowT t) ∨ b = 0) ∧ (1 ≤ countW (rowT t) ∨ a = 0) ∧ ((t = 65535 ∧ (d.length : Int).tmod 8 = 0 ∧ (d.length : Int) ≤ 65520) ∨ (¬ t = 65535 ∧ d = [])) := by
  unfold rightA at hr; rw [if_neg ht] at hr
  simp only [Bool.and_eq_true, Bool.or_eq_true, decide_eq_true_eq] at hr
  obtain ⟨⟨⟨⟨⟨⟨h1, h2⟩, h3⟩, h4⟩, h5⟩, h6⟩, h7⟩ := hr
  refine ⟨h1, h2, h3, h4, h5, h6, ?_⟩
  split at h7
  · rename_i h8
    simp only [Bool.and_eq_true, decide_eq_true_eq] at h7; exact .inl ⟨h8, h7⟩
  · rename_i h8
    simp only [decide_eq_true_eq] at h7; exact .inr ⟨h8, List.eq_nil_of_length_eq_zero h7⟩
theorem sizeO_right {c f : Int} {h : Bool} {x : Int} {v m : List Int} (hr : rightO c f h x v m = true) : sizeO c f h x v m = (encO c f h x v m).length ∧ (encO c f h x v m).length ≤ 300 := by
  have h1 : sizeO c f h x v m = ((refB c f h x v m).length : Int) := by rw [size_law, if_pos hr]
  have hrn := right_nums hr
  have hl2 := bytesN_len (n := c) (w := 2) (by decide)
  have : ((refB c f h x v m).length : Int) = 4 + restO c v m := by
    rw [hrn.2.2.2.2.2.2.2]; unfold refB; simp only [List.length_append, List.length_cons, List.length_nil]; omega
  rw [enc_law hr]
  exact ⟨h1, by omega⟩
theorem type_le {t : Int} (h : rowK t = true ∨ t = 25) : 0 ≤ t ∧ t ≤ 65535 := by
  rcases h with h | h
  · have := rowK_t h; omega
  · omega
theorem sizeA_len {t a b c f : Int} {h : Bool} {x : Int} {v m d : List Int} (hr : rightA (rightO c f h x v m) t a b c f h x v m d = true) : sizeA (rightO c f h x v m) (sizeO c f h x v m) t a b c f h x v m d = 4 + ((bodyA t a b (encO c f h x v m) d).length : Int) ∧ (bodyA t a b (encO c f h x v m) d).length ≤ 65524 ∧ (4 + (bodyA t a b (encO c f h x v m) d).length) % 8 = 0 ∧ 8 ≤ 4 + (bodyA t a b (encO c f h x v m) d).length := by
  unfold sizeA bodyA
  rw [if_pos hr]
  by_cases ht : t = 25
  · rw [if_pos ht, if_pos ht]
    obtain ⟨_, _, _, _, _, _, hR⟩ := rightA_25 ht hr
    obtain ⟨e1, e2⟩ := sizeO_right hR
    have h4 : 4 ≤ (encO c f h x v m).length := by
      have : sizeO c f h x v m = 4 + restO c v m := by unfold sizeO; rw [if_pos hR]
      have hrest : 0 ≤ restO c v m := by unfold restO; split <;> omega
      omega
    rw [e1, List.length_append, List.length_replicate, Int.tdiv_eq_ediv_of_nonneg (by omega)]
    omega
  · rw [if_neg ht, if_neg ht]
    obtain ⟨k1, _, _, k4, _, _, k7⟩ := rightA_row ht hr
    have hs := putB_size k4
    have hz := siz_le t
    rw [List.length_append]
    have hq : sizeW (rowT t) = 4 ∨ sizeW (rowT t) = 12 := by
      have := rowK_t k1
      rcases this with rfl | (rfl | rfl | rfl) | (rfl | rfl) | (rfl | rfl | rfl | rfl) | (rfl | rfl | rfl | rfl | rfl | rfl) <;> decide
    rcases k7 with ⟨k8, k9, k10⟩ | ⟨_, rfl⟩
    · have : sizeW (rowT t) = 4 := by rw [k8]; decide
      rw [Int.tmod_eq_emod_of_nonneg (by omega)] at k9
      omega
    · simp only [List.length_nil]; omega
end Go.Eng
