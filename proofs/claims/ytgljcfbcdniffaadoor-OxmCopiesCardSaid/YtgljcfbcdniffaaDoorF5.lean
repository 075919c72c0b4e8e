/- Contracts of functions of the given program, told by plain Lean functions. No condition. -/
import Derived.Test.YtgljcfbcdniffaaDoorProg
import Derived.Test.YtgljcfbcdniffaaDoorESum
import Derived.KernelRfl
import Derived.Test.YtgljcfbcdniffaaDoorF4
namespace Go.Eng
open Go.Proofs
set_option linter.unusedVariables false
set_option linter.unusedSimpArgs false
set_option maxRecDepth 100000
set_option maxHeartbeats 1000000
theorem c1 : needsF 31 = [5, 10, 29] := by decide
theorem c2 : findN [105, 112, 118, 54, 95, 110, 100, 95, 116, 108, 108] = 33 ∧ findB [105, 112, 118, 54, 95, 110, 100, 95, 116, 108, 108] = true := by
  have h : idxF namesL [105, 112, 118, 54, 95, 110, 100, 95, 116, 108, 108] 0 = 33 := by decide +kernel
  unfold findN findB; rw [h]; exact ⟨rfl, rfl⟩
theorem c3 : fIs 33 = true ∧ fNeed 33 = 29 ∧ fVals 33 = [136] := by decide
theorem c4 : fitsF 7 [8] = false := by decide
theorem c5 : fitsF 7 [7] = true := by decide
theorem spare0 : ∀ v : List Int, (∀ b ∈ v, 0 ≤ b ∧ b ≤ 255) → spareF 0 v = true
  | [], _ => rfl
  | b :: r, h => by
    unfold spareF
    have hb := h b (by simp)
    rw [if_pos (by show b.fdiv (2 ^ 8) = 0; rw [Int.fdiv_eq_ediv_of_nonneg _ (by decide)]; omega)]
    exact spare0 r fun x hx => h x (by simp [hx])
theorem refL_add (v : List Int) (z : Int) : ∀ (f g : Nat) (i : Int), refL v z (f + g) i = (refL v z f i && refL v z g (i + f))
  | 0, g, i => by simp [refL]
  | f + 1, g, i => by
    rw [show f + 1 + g = (f + g) + 1 by omega]
    by_cases h : bitop .and .u8 ((v.getD (z - 1 - i.tdiv 8).toNat 0).fdiv (2 ^ (min (i.tmod 8).toNat 8))) 1 = 1
    · rw [refL_t h, refL_t h]; rfl
    · rw [refL_f h, refL_f h, refL_add v z f g (i + 1), show i + 1 + (f : Int) = i + ((f + 1 : Nat) : Int) by omega]
theorem top_all : ∀ s ≤ 8, ∀ b < 256, spareF (s : Nat) [((b : Nat) : Int)] = refL [((b : Nat) : Int)] 1 s ((8 : Int) - (s : Nat)) := by decide +kernel
theorem top_one {s : Nat} {b : Int} (hs : s ≤ 8) (h : 0 ≤ b ∧ b ≤ 255) : spareF s [b] = refL [b] 1 s (8 - s) := by
  have := top_all s hs b.toNat (by omega)
  rw [Int.toNat_of_nonneg h.1] at this; exact this
theorem spare_cut {s : Int} {b : Int} {r : List Int} (h : s ≤ 8) (hr : ∀ x ∈ r, 0 ≤ x ∧ x ≤ 255) : spareF s (b :: r) = spareF s [b] := by
  unfold spareF
  rw [if_neg (by omega : ¬ 8 < s), Int.sub_self, spare0 r hr]
  rfl
theorem two {b0 b1 b2 b3 : Int} {v : List Int} (e : v = [b0, b1, b2, b3]) (hv : ∀ b ∈ v, 0 ≤ b ∧ b ≤ 255) : spareF 12 v = refL v 4 12 20 := by
  subst e
  have h0 := top_one (s := 8) (Nat.le_refl _) (hv b0 (by simp))
  have h1 := top_one (s := 4) (by omega) (hv b1 (by simp))
  have hr := refL_add [b0, b1, b2, b3] 4 4 8 20
  have e1 : refL [b0, b1, b2, b3] 4 4 20 = refL [b1] 1 4 (8 - (4 : Nat)) := rfl
  have e2 : refL [b0, b1, b2, b3] 4 8 (20 + (4 : Nat)) = refL [b0] 1 8 (8 - (8 : Nat)) := rfl
  have hc : spareF 4 (b1 :: [b2, b3]) = spareF 4 [b1] := spare_cut (by omega) fun x hx => hv x (by simp at hx ⊢; omega)
  rw [show (12 : Nat) = 4 + 8 from rfl, hr, e1, e2, ← h0, ← h1]
  show (if b0.fdiv (2 ^ (min (8 - (8 : Int)).toNat 8)) = 0 then spareF 4 [b1, b2, b3] else false) = (spareF 4 [b1] && (if b0.fdiv (2 ^ (min (8 - (8 : Int)).toNat 8)) = 0 then true else false))
  rw [hc]
  split <;> simp
theorem fits_tab : ∀ k < 40, fIs (k : Nat) = true ∧ sizeF (k : Nat) = sizeR (k : Nat) ∧ bitsL.getD k 0 = bitsR (k : Nat) ∧ (8 * sizeR (k : Nat) - bitsR (k : Nat) = 0 ∨ k = 6 ∨ k = 7 ∨ k = 8 ∨ k = 9 ∨ k = 28 ∨ k = 34 ∨ k = 35 ∨ k = 36 ∨ k = 39) := by decide
theorem fits_law {n : Int} {v : List Int} (hv : ∀ b ∈ v, 0 ≤ b ∧ b ≤ 255) : fitsF n v = refFitsF n v := by
  by_cases hn : 0 ≤ n ∧ n < 40
  · obtain ⟨k, rfl⟩ : ∃ k : Nat, n = k := ⟨n.toNat, by omega⟩
    obtain ⟨h0, h1, h2, h3⟩ := fits_tab k (by omega)
    unfold fitsF refFitsF
    rw [h1]
    by_cases hl : (v.length : Int) = sizeR k
    · rw [if_pos ⟨hn, hl⟩, if_pos ⟨h0, hl⟩, Int.toNat_natCast, h2]
      have one : ∀ {s : Nat} {f : Nat} {i z : Int} {b : Int} {r : List Int}, v = b :: r → s ≤ 8 → f = s → (refL v z f i = refL [b] 1 s (8 - s)) → spareF s v = refL v z f i := fun {s f i z b r} e hs _ hr => by
        rw [hr, ← top_one hs (hv b (by rw [e]; simp)), e]
        exact spare_cut (by omega) fun x hx => hv x (by rw [e]; simp [hx])
      rcases h3 with h3 | rfl | rfl | rfl | rfl | rfl | rfl | rfl | rfl | rfl
      · rw [h3, spare0 v hv]; rfl
      · match v, hl with
        | [b0, b1], _ => exact one (s := 3) rfl (by omega) rfl rfl
      · match v, hl with
        | [b0], _ => exact one (s := 5) rfl (by omega) rfl rfl
      · match v, hl with
        | [b0], _ => exact one (s := 2) rfl (by omega) rfl rfl
      · match v, hl with
        | [b0], _ => exact one (s := 6) rfl (by omega) rfl rfl
      · match v, hl with
        | [b0, b1, b2, b3], _ => exact two rfl hv
      · match v, hl with
        | [b0, b1, b2, b3], _ => exact two rfl hv
      · match v, hl with
        | [b0], _ => exact one (s := 5) rfl (by omega) rfl rfl
      · match v, hl with
        | [b0], _ => exact one (s := 7) rfl (by omega) rfl rfl
      · match v, hl with
        | [b0, b1], _ => exact one (s := 7) rfl (by omega) rfl rfl
    · rw [if_neg (fun h => hl h.2), if_neg (fun h => hl h.2)]
  · unfold fitsF refFitsF
    rw [if_neg (fun h => hn h.1), if_neg (fun h => hn (fIs_t.1 h.1))]
end Go.Eng
