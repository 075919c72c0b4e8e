/- Contracts of functions of the given program, told by plain Lean functions. No condition. -/
import Derived.Test.YtmbcgankddgpjaaDoorProg
import Derived.Test.YtmbcgankddgpjaaDoorEArg
import Derived.KernelRfl
import Derived.Test.YtmbcgankddgpjaaDoorR7
namespace Go.Eng
open Go.Proofs
set_option linter.unusedVariables false
set_option linter.unusedSimpArgs false
set_option maxRecDepth 100000
set_option maxHeartbeats 1000000
theorem byteAt_succ {n : Int} {k j : Nat} (h : j < k) (hk : k ≤ 7) : byteAt n ((k + 1 : Nat) : Int) j = byteAt (n / 256) k j := by
  unfold byteAt
  have e : min (8 * (((k + 1 : Nat) : Int) - 1 - j)).toNat 64 = 8 + 8 * (k - 1 - j) := by omega
  have e' : min (8 * ((k : Int) - 1 - j)).toNat 64 = 8 * (k - 1 - j) := by omega
  have hp : ∀ m : Nat, (0 : Int) ≤ 2 ^ m := fun m => Int.le_of_lt (Int.pow_pos (by decide))
  rw [e, e', Int.fdiv_eq_ediv_of_nonneg _ (hp _), Int.fdiv_eq_ediv_of_nonneg _ (hp _), Int.pow_add, ← Int.ediv_ediv_of_nonneg (hp 8)]
  rfl
theorem bytesN_succ {n : Int} {k : Nat} (hk : k ≤ 7) : bytesN n ((k + 1 : Nat) : Int) = bytesN (n / 256) k ++ [n % 256] := by
  unfold bytesN bytesT
  rw [Int.toNat_natCast, Int.toNat_natCast, List.range_succ, List.map_append]
  congr 1
  · apply List.map_congr_left
    intro j hj
    exact byteAt_succ (List.mem_range.1 hj) hk
  · show [byteAt n ((k + 1 : Nat) : Int) k] = _
    unfold byteAt
    have e : min (8 * (((k + 1 : Nat) : Int) - 1 - k)).toNat 64 = 0 := by omega
    rw [e, Int.pow_zero, Int.fdiv_one]
theorem numL_bytesN : ∀ (k : Nat) (n : Int), k ≤ 8 → 0 ≤ n → n < 256 ^ k → numL (bytesN n k) = n
  | 0, n, _, h0, h1 => by
    have : n = 0 := by rw [Int.pow_zero] at h1; omega
    subst this; rfl
  | k + 1, n, hk, h0, h1 => by
    rw [bytesN_succ (by omega), numL_snoc, numL_bytesN k (n / 256) (by omega) (by omega) (by rw [Int.pow_succ] at h1; exact Int.ediv_lt_of_lt_mul (by decide) h1)]
    omega
theorem bytesN_numL : ∀ (k : Nat) (b : List Int), k ≤ 8 → b.length = k → (∀ x ∈ b, 0 ≤ x ∧ x ≤ 255) → bytesN (numL b) k = b
  | 0, b, _, hl, _ => by
    have : b = [] := List.eq_nil_of_length_eq_zero hl
    subst this; rfl
  | k + 1, b, hk, hl, hb => by
    rcases List.eq_nil_or_concat b with rfl | ⟨l, c, rfl⟩
    · cases hl
    · rw [List.concat_eq_append] at hl hb ⊢
      have hc := hb c (by simp)
      have hl' : l.length = k := by simpa using hl
      rw [numL_snoc, bytesN_succ (by omega)]
      rw [show (numL l * 256 + c) / 256 = numL l by omega, show (numL l * 256 + c) % 256 = c by omega, bytesN_numL k l (by omega) hl' fun x hx => hb x (by simp [hx])]
theorem bytesN_byte (n w : Int) : ∀ x ∈ bytesN n w, 0 ≤ x ∧ x ≤ 255 := by
  intro x hx
  unfold bytesN bytesT at hx
  obtain ⟨j, _, rfl⟩ := List.mem_map.1 hx
  exact byteAt_le n w j
theorem bytesN_0 (w : Int) : bytesN 0 w = List.replicate w.toNat 0 := (bytesN_zero w).symm
theorem zeroL_rep (k : Nat) : zeroL (List.replicate k 0) = true := by
  unfold zeroL; rw [List.all_eq_true]; intro x hx; rw [List.eq_of_mem_replicate hx]; rfl
theorem zeroL_eq {b : List Int} (h : zeroL b = true) : b = List.replicate b.length 0 := by
  unfold zeroL at h
  rw [List.all_eq_true] at h
  exact List.eq_replicate_iff.2 ⟨rfl, fun x hx => by simpa using h x hx⟩
/-- A row's bytes are put behind what is there. -/
theorem putA_acc : ∀ (w xs b : List Int), putA w xs b = (putA w xs []).map (b ++ ·)
  | [], xs, b => by simp [putA]
  | n :: r, xs, b => by
    simp only [putA]
    split
    · rw [putA_acc r xs (b ++ bytesN 0 (0 - n)), putA_acc r xs ([] ++ bytesN 0 (0 - n)), Option.map_map]
      congr 1; funext z; simp
    · cases xs with
      | nil => rfl
      | cons x ys =>
        dsimp only
        split
        · rfl
        · rw [putA_acc r ys (b ++ bytesN x n), putA_acc r ys ([] ++ bytesN x n), Option.map_map]
          congr 1; funext z; simp
theorem getA_acc : ∀ (w b o : List Int), (getA w b o).2 = (getA w b []).2 ∧ ((getA w b []).2 = 0 → (getA w b o).1 = o ++ (getA w b []).1)
  | [], b, o => by simp [getA]
  | n :: r, b, o => by
    simp only [getA]
    split
    · exact ⟨rfl, fun h => by cases h⟩
    · split
      · have h1 := getA_acc r (b.drop (absI n).toNat) (o ++ [numL (b.take (absI n).toNat)])
        have h2 := getA_acc r (b.drop (absI n).toNat) ([] ++ [numL (b.take (absI n).toNat)])
        refine ⟨h1.1.trans h2.1.symm, fun h => ?_⟩
        have h0 := h2.1.symm.trans h
        rw [h1.2 h0, h2.2 h0]; simp
      · split
        · exact getA_acc r (b.drop (absI n).toNat) o
        · exact ⟨rfl, fun h => by cases h⟩
theorem fit_lt {x n : Int} (h0 : 0 ≤ x) (h1 : x ≤ 18446744073709551615) (hn : 0 < n) (h8 : n ≤ 8) (hf : ¬ (n < 8 ∧ x.fdiv (2 ^ (min (8 * n).toNat 64)) ≠ 0)) : x < 256 ^ n.toNat := by
  by_cases hlt : n < 8
  · have hz : x.fdiv (2 ^ (min (8 * n).toNat 64)) = 0 := Classical.byContradiction fun h => hf ⟨hlt, h⟩
    have e : min (8 * n).toNat 64 = 8 * n.toNat := by omega
    have hp : (0 : Int) < 2 ^ (8 * n.toNat) := Int.pow_pos (by decide)
    rw [e, Int.fdiv_eq_ediv_of_nonneg _ (Int.le_of_lt hp)] at hz
    have h2 := Int.lt_ediv_add_one_mul_self x hp
    rw [hz] at h2
    have e2 : (2 : Int) ^ (8 * n.toNat) = 256 ^ n.toNat := by rw [Int.pow_mul]; rfl
    rw [← e2]; omega
  · have : n = 8 := by omega
    subst this
    show x < 256 ^ 8
    omega
theorem lt_fit {x n : Int} (h0 : 0 ≤ x) (hn : 0 < n) (h8 : n ≤ 8) (hx : x < 256 ^ n.toNat) : ¬ (n < 8 ∧ x.fdiv (2 ^ (min (8 * n).toNat 64)) ≠ 0) := by
  rintro ⟨hlt, hz⟩
  apply hz
  have e : min (8 * n).toNat 64 = 8 * n.toNat := by omega
  have hp : (0 : Int) < 2 ^ (8 * n.toNat) := Int.pow_pos (by decide)
  have e2 : (2 : Int) ^ (8 * n.toNat) = 256 ^ n.toNat := by rw [Int.pow_mul]; rfl
  rw [e, Int.fdiv_eq_ediv_of_nonneg _ (Int.le_of_lt hp), e2]
  exact Int.ediv_eq_zero_of_lt h0 hx
def okR (w : List Int) : Prop := ∀ n ∈ w, n ≠ 0 ∧ n ≤ 8 ∧ -64 ≤ n
/-- What a row wrote is read. -/
theorem put_get : ∀ (w xs r rest : List Int), okR w → (∀ x ∈ xs, 0 ≤ x ∧ x ≤ 18446744073709551615) → (w.map oneI).sum = xs.length → putA w xs [] = some r → getA w (r ++ rest) [] = (xs, 0)
  | [], xs, r, rest, _, _, hc, h => by
    simp at hc
    have : xs = [] := List.eq_nil_of_length_eq_zero (by omega)
    subst this; rfl
  | n :: w, xs, r, rest, hw, hx, hc, h => by
    have hn := hw n (by simp)
    have hw' : okR w := fun m hm => hw m (by simp [hm])
    simp only [putA] at h
    rw [List.map_cons, List.sum_cons] at hc
    by_cases hneg : n < 0
    · rw [if_pos hneg, List.nil_append, putA_acc] at h
      have h1 : oneI n = 0 := if_neg (by omega)
      obtain ⟨r', hr', rfl⟩ := Option.map_eq_some_iff.1 h
      have ih := put_get w xs r' rest hw' hx (by omega) hr'
      have hl := bytesN_len (n := 0) (w := 0 - n) (by omega)
      have ha := absI_neg hneg
      have hln : (bytesN 0 (0 - n)).length = (absI n).toNat := by omega
      simp only [getA]
      rw [List.append_assoc, if_neg (by rw [List.length_append]; omega), if_neg (by omega), ← hln, List.take_left, List.drop_left, bytesN_0, zeroL_rep, if_pos rfl, ih]
    · rw [if_neg hneg] at h
      have h1 : oneI n = 1 := if_pos (by omega)
      cases xs with
      | nil => cases h
      | cons x ys =>
        dsimp only at h
        by_cases hf : n < 8 ∧ x.fdiv (2 ^ (min (8 * n).toNat 64)) ≠ 0
        · rw [if_pos hf] at h; cases h
        · rw [if_neg hf, List.nil_append, putA_acc] at h
          obtain ⟨r', hr', rfl⟩ := Option.map_eq_some_iff.1 h
          have hx0 := hx x (by simp)
          have hlt := fit_lt hx0.1 hx0.2 (by omega) hn.2.1 hf
          have ih := put_get w ys r' rest hw' (fun y hy => hx y (by simp [hy])) (by rw [List.length_cons] at hc; omega) hr'
          have hl := bytesN_len (n := x) (w := n) (by omega)
          have ha := absI_nn hneg
          have hln : (bytesN x n).length = (absI n).toNat := by omega
          have hnum : numL (bytesN x n) = x := by
            have := numL_bytesN n.toNat x (by omega) hx0.1 hlt
            rwa [show ((n.toNat : Nat) : Int) = n by omega] at this
          simp only [getA]
          have hacc := getA_acc w (r' ++ rest) ([] ++ [x])
          rw [List.append_assoc, if_neg (by rw [List.length_append]; omega), if_pos (by omega), ← hln, List.take_left, List.drop_left, hnum]
          rw [ih] at hacc
          exact Prod.ext ((hacc.2 rfl).trans (by simp)) hacc.1
/-- What a row read is what it would write. -/
theorem get_put : ∀ (w b xs : List Int), okR w → (∀ x ∈ b, 0 ≤ x ∧ x ≤ 255) → getA w b [] = (xs, 0) → (w.map oneI).sum = xs.length ∧ (w.map absI).sum ≤ b.length ∧ putA w xs [] = some (b.take (w.map absI).sum.toNat)
  | [], b, xs, _, _, h => by
    simp only [getA, Prod.mk.injEq] at h
    obtain ⟨rfl, _⟩ := h
    exact ⟨rfl, Int.natCast_nonneg _, rfl⟩
  | n :: w, b, xs, hw, hb, h => by
    have hn := hw n (by simp)
    have hw' : okR w := fun m hm => hw m (by simp [hm])
    have ha := absI_le (n := n)
    have hs : 0 ≤ (w.map absI).sum := by
      have : ∀ l : List Int, 0 ≤ (l.map absI).sum := fun l => by
        induction l with
        | nil => simp
        | cons a l ih => rw [List.map_cons, List.sum_cons]; have := absI_le (n := a); omega
      exact this w
    have hd : (b.drop (absI n).toNat).length = b.length - (absI n).toNat := List.length_drop
    have hbd : ∀ x ∈ b.drop (absI n).toNat, 0 ≤ x ∧ x ≤ 255 := fun x hx => hb x (List.mem_of_mem_drop hx)
    have htk : ∀ k : Nat, (b.take (absI n).toNat) ++ (b.drop (absI n).toNat).take k = b.take ((absI n).toNat + k) := fun k => by rw [List.take_add]
    simp only [getA] at h
    rw [List.map_cons, List.sum_cons, List.map_cons, List.sum_cons]
    by_cases hsh : (b.length : Int) < absI n
    · rw [if_pos hsh] at h; cases h
    · rw [if_neg hsh] at h
      have htl : (b.take (absI n).toNat).length = (absI n).toNat := by rw [List.length_take]; omega
      by_cases hp : 0 < n
      · rw [if_pos hp] at h
        have hacc := getA_acc w (b.drop (absI n).toNat) ([] ++ [numL (b.take (absI n).toNat)])
        rw [h] at hacc
        have h0 := hacc.1.symm
        obtain ⟨ys, hys⟩ : ∃ ys, getA w (b.drop (absI n).toNat) [] = (ys, 0) := ⟨_, Prod.ext rfl h0⟩
        rw [hys] at hacc
        have hxs := hacc.2 rfl
        obtain ⟨i1, i2, i3⟩ := get_put w _ ys hw' hbd hys
        have e1 : oneI n = 1 := if_pos hp
        have ea := absI_nn (n := n) (by omega)
        dsimp only [List.nil_append] at hxs
        rw [List.singleton_append] at hxs
        subst hxs
        have hbt : ∀ x ∈ b.take (absI n).toNat, 0 ≤ x ∧ x ≤ 255 := fun x hx => hb x (List.mem_of_mem_take hx)
        have hnl := numL_le (b.take (absI n).toNat) hbt
        have h2 := hnl.2
        rw [htl] at h2
        have e3 : (absI n).toNat = n.toNat := by rw [ea]
        have h4 : numL (b.take (absI n).toNat) < 256 ^ n.toNat := by rw [← e3]; exact h2
        have hfit : ¬ (n < 8 ∧ (numL (b.take (absI n).toNat)).fdiv (2 ^ (min (8 * n).toNat 64)) ≠ 0) := lt_fit hnl.1 hp hn.2.1 h4
        have hbk := bytesN_numL (absI n).toNat (b.take (absI n).toNat) (by omega) htl hbt
        rw [show (((absI n).toNat : Nat) : Int) = n by omega] at hbk
        refine ⟨by rw [List.length_cons]; omega, by omega, ?_⟩
        simp only [putA]
        rw [if_neg (by omega), if_neg hfit, List.nil_append, putA_acc, i3, hbk]
        show some _ = _
        dsimp only; rw [htk]; congr 2; omega
      · rw [if_neg hp] at h
        by_cases hz : zeroL (b.take (absI n).toNat) = true
        · rw [if_pos hz] at h
          obtain ⟨i1, i2, i3⟩ := get_put w _ xs hw' hbd h
          have e1 : oneI n = 0 := if_neg hp
          have hze := zeroL_eq hz
          rw [htl] at hze
          have ea := absI_neg (n := n) (by omega)
          refine ⟨by omega, by omega, ?_⟩
          simp only [putA]
          rw [if_pos (by omega), List.nil_append, putA_acc, i3, bytesN_0, show (0 - n).toNat = (absI n).toNat by omega, ← hze]
          show some _ = _
          dsimp only; rw [htk]; congr 2; omega
        · rw [if_neg hz] at h; cases h
/-- The same of rows that may be. -/
theorem putF_getF {w xs : List Int} (rest : List Int) (hx : ∀ x ∈ xs, 0 ≤ x ∧ x ≤ 18446744073709551615) (hk : putK w xs = true) : getF w (putB w xs ++ rest) = (xs, 0) ∧ (putB w xs).length = (sizeW w).toNat := by
  unfold putK at hk
  obtain ⟨r, hr⟩ := Option.isSome_iff_exists.1 hk
  have hb : putB w xs = r := by unfold putB; rw [hr]; rfl
  rw [hb]
  unfold putF at hr
  split at hr
  · rename_i h
    have hw : okR w := (rightF_t.1 h.1).2
    have hc : (w.map oneI).sum = xs.length := by have := h.2; unfold countW at this; rwa [if_pos h.1] at this
    unfold getF sizeW
    rw [if_pos h.1, if_pos h.1]
    refine ⟨put_get w xs r rest hw hx hc hr, ?_⟩
    have hl : ∀ (w xs r : List Int), okR w → putA w xs [] = some r → (r.length : Int) = (w.map absI).sum := by
      intro w
      induction w with
      | nil => intro xs r _ h; simp only [putA, Option.some.injEq] at h; subst h; rfl
      | cons n w ih =>
        intro xs r hw h
        have hn := hw n (by simp)
        have hw' : okR w := fun m hm => hw m (by simp [hm])
        simp only [putA] at h
        rw [List.map_cons, List.sum_cons]
        split at h
        · rw [putA_acc] at h
          obtain ⟨r', hr', rfl⟩ := Option.map_eq_some_iff.1 h
          have := ih _ _ hw' hr'
          have hl := bytesN_len (n := 0) (w := 0 - n) (by omega)
          have ha := absI_neg (n := n) (by assumption)
          simp only [List.nil_append, List.length_append]; omega
        · cases xs with
          | nil => cases h
          | cons x ys =>
            dsimp only at h
            split at h
            · cases h
            · rw [putA_acc] at h
              obtain ⟨r', hr', rfl⟩ := Option.map_eq_some_iff.1 h
              have := ih _ _ hw' hr'
              have hl := bytesN_len (n := x) (w := n) (by omega)
              have ha := absI_nn (n := n) (by assumption)
              simp only [List.nil_append, List.length_append]; omega
    have := hl w xs r hw hr
    omega
  · cases hr
theorem getF_putF {w b xs : List Int} (hb : ∀ x ∈ b, 0 ≤ x ∧ x ≤ 255) (h : getF w b = (xs, 0)) : putK w xs = true ∧ putB w xs = b.take (sizeW w).toNat ∧ sizeW w ≤ b.length := by
  unfold getF at h
  split at h
  · rename_i hr
    obtain ⟨h1, h2, h3⟩ := get_put w b xs (rightF_t.1 hr).2 hb h
    have hF : putF w xs = some (b.take (w.map absI).sum.toNat) := by
      unfold putF countW; rw [if_pos hr, if_pos ⟨hr, h1⟩, h3]
    unfold putK putB sizeW
    rw [hF, if_pos hr]; exact ⟨rfl, rfl, h2⟩
  · cases h
end Go.Eng
