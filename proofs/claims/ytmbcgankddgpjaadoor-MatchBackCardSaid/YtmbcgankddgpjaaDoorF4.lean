/- Contracts of functions of the given program, told by plain Lean functions. No condition. -/
import Derived.Test.YtmbcgankddgpjaaDoorProg
import Derived.Test.YtmbcgankddgpjaaDoorEArg
import Derived.KernelRfl
import Derived.Test.YtmbcgankddgpjaaDoorF2
namespace Go.Eng
open Go.Proofs
set_option linter.unusedVariables false
set_option linter.unusedSimpArgs false
set_option maxRecDepth 100000
set_option maxHeartbeats 1000000
def refL (v : List Int) (z : Int) : Nat → Int → Bool
  | 0, _ => true
  | f + 1, i => if bitop .and .u8 ((v.getD (z - 1 - i.tdiv 8).toNat 0).fdiv (2 ^ (min (i.tmod 8).toNat 8))) 1 = 1 then false else refL v z f (i + 1)
theorem refL_t {v : List Int} {z i : Int} {f : Nat} (h : bitop .and .u8 ((v.getD (z - 1 - i.tdiv 8).toNat 0).fdiv (2 ^ (min (i.tmod 8).toNat 8))) 1 = 1) : refL v z (f + 1) i = false := if_pos h
theorem refL_f {v : List Int} {z i : Int} {f : Nat} (h : ¬ bitop .and .u8 ((v.getD (z - 1 - i.tdiv 8).toNat 0).fdiv (2 ^ (min (i.tmod 8).toNat 8))) 1 = 1) : refL v z (f + 1) i = refL v z f (i + 1) := if_neg h
def refFitsF (n : Int) (v : List Int) : Bool := if fIs n = true ∧ (v.length : Int) = sizeR n then refL v (sizeR n) (8 * sizeR n - bitsR n).toNat (bitsR n) else false
theorem tab_le : ∀ k < 40, 1 ≤ sizeR (k : Nat) ∧ sizeR (k : Nat) ≤ 16 ∧ 1 ≤ bitsR (k : Nat) ∧ bitsR (k : Nat) ≤ 8 * sizeR (k : Nat) := by decide
theorem rev_done {l x : List Int} {i : Nat} (hi : 2 * i ≤ l.length) (hj : l.length ≤ 2 * i + 1) (hx : x.length = l.length) (hk : ∀ k, k < l.length → x.getD k 0 = if k < i ∨ l.length ≤ k + i then l.getD (l.length - 1 - k) 0 else l.getD k 0) : x = l.reverse := by
  apply List.ext_getElem (by simp [hx])
  intro k h1 h2
  have h := hk k (by omega)
  rw [List.getElem_reverse]
  have e1 : x.getD k 0 = x[k] := by rw [List.getD_eq_getElem?_getD, List.getElem?_eq_getElem h1]; rfl
  have e2 : l.getD (l.length - 1 - k) 0 = l[l.length - 1 - k]'(by omega) := by rw [List.getD_eq_getElem?_getD, List.getElem?_eq_getElem (by omega)]; rfl
  rw [← e1, h, ← e2]
  split
  · rfl
  · rw [show l.length - 1 - k = k by omega]
theorem rev_step {l x : List Int} {i : Nat} (hlt : 2 * i + 1 < l.length) (hx : x.length = l.length) (hk : ∀ k, k < l.length → x.getD k 0 = if k < i ∨ l.length ≤ k + i then l.getD (l.length - 1 - k) 0 else l.getD k 0) :
    ∀ k, k < l.length → ((x.set i (x.getD (l.length - 1 - i) 0)).set (l.length - 1 - i) (x.getD i 0)).getD k 0 = if k < i + 1 ∨ l.length ≤ k + (i + 1) then l.getD (l.length - 1 - k) 0 else l.getD k 0 := fun k h => by
  have h1 := hk k h
  have h2 := hk i (by omega)
  have h3 := hk (l.length - 1 - i) (by omega)
  rw [if_neg (by omega)] at h2 h3
  rw [List.getD_eq_getElem?_getD, List.getElem?_set, List.getElem?_set]
  by_cases e1 : l.length - 1 - i = k
  · rw [if_pos e1, if_pos (by simp; omega), if_pos (by omega)]
    simp only [Option.getD_some]
    rw [h2, show l.length - 1 - k = i by omega]
  · rw [if_neg e1]
    by_cases e2 : i = k
    · rw [if_pos e2, if_pos (by omega), if_pos (by omega)]
      simp only [Option.getD_some]
      rw [h3, e2]
    · rw [if_neg e2, ← List.getD_eq_getElem?_getD, h1]
      by_cases e3 : k < i ∨ l.length ≤ k + i
      · rw [if_pos e3, if_pos (by omega)]
      · rw [if_neg e3, if_neg (by omega)]
theorem castL {t : Ty} (h : t = t) (x : List t.den) : (h ▸ x : List t.den) = x := rfl
def needsF (n : Int) : List Int := if 0 ≤ n ∧ n < 40 then (if (needF n).1 = -1 then [] else if (needF (needF n).1).1 = -1 then [(needF n).1] else if (needF (needF (needF n).1).1).1 = -1 then [(needF (needF n).1).1, (needF n).1] else [(needF (needF (needF n).1).1).1, (needF (needF n).1).1, (needF n).1]) else []
theorem need4 : ∀ k < 40, (needF (needF (needF (needF (k : Nat)).1).1).1).1 = -1 ∨ (needF (needF (needF (k : Nat)).1).1).1 = -1 ∨ (needF (needF (k : Nat)).1).1 = -1 ∨ (needF (k : Nat)).1 = -1 := by decide
theorem c1 : needsF 31 = [5, 10, 29] := by decide
theorem c2 : findN [105, 112, 118, 54, 95, 110, 100, 95, 116, 108, 108] = 33 ∧ findB [105, 112, 118, 54, 95, 110, 100, 95, 116, 108, 108] = true := by
  have h : idxF namesL [105, 112, 118, 54, 95, 110, 100, 95, 116, 108, 108] 0 = 33 := by decide +kernel
  unfold findN findB; rw [h]; exact ⟨rfl, rfl⟩
theorem c3 : fIs 33 = true ∧ fNeed 33 = 29 ∧ fVals 33 = [136] := by decide
theorem c4 : fitsF 7 [8] = false := by decide
theorem c5 : fitsF 7 [7] = true := by decide
theorem spare0 : ∀ v : List Int, (∀ b ∈ v, 0 ≤ b ∧ b ≤ 255) → spareF 0 v = true
  | [], _ => rfl
  | b :: r, h => by
    unfold spareF
    have hb := h b (by simp)
    rw [if_pos (by show b.fdiv (2 ^ 8) = 0; rw [Int.fdiv_eq_ediv_of_nonneg _ (by decide)]; omega)]
    exact spare0 r fun x hx => h x (by simp [hx])
theorem refL_add (v : List Int) (z : Int) : ∀ (f g : Nat) (i : Int), refL v z (f + g) i = (refL v z f i && refL v z g (i + f))
  | 0, g, i => by simp [refL]
  | f + 1, g, i => by
    rw [show f + 1 + g = (f + g) + 1 by omega]
    by_cases h : bitop .and .u8 ((v.getD (z - 1 - i.tdiv 8).toNat 0).fdiv (2 ^ (min (i.tmod 8).toNat 8))) 1 = 1
    · rw [refL_t h, refL_t h]; rfl
    · rw [refL_f h, refL_f h, refL_add v z f g (i + 1), show i + 1 + (f : Int) = i + ((f + 1 : Nat) : Int) by omega]
theorem top_all : ∀ s ≤ 8, ∀ b < 256, spareF (s : Nat) [((b : Nat) : Int)] = refL [((b : Nat) : Int)] 1 s ((8 : Int) - (s : Nat)) := by decide +kernel
theorem top_one {s : Nat} {b : Int} (hs : s ≤ 8) (h : 0 ≤ b ∧ b ≤ 255) : spareF s [b] = refL [b] 1 s (8 - s) := by
  have := top_all s hs b.toNat (by omega)
  rw [Int.toNat_of_nonneg h.1] at this; exact this
theorem spare_cut {s : Int} {b : Int} {r : List Int} (h : s ≤ 8) (hr : ∀ x ∈ r, 0 ≤ x ∧ x ≤ 255) : spareF s (b :: r) = spareF s [b] := by
  unfold spareF
  rw [if_neg (by omega : ¬ 8 < s), Int.sub_self, spare0 r hr]
  rfl
theorem two {b0 b1 b2 b3 : Int} {v : List Int} (e : v = [b0, b1, b2, b3]) (hv : ∀ b ∈ v, 0 ≤ b ∧ b ≤ 255) : spareF 12 v = refL v 4 12 20 := by
  subst e
  have h0 := top_one (s := 8) (Nat.le_refl _) (hv b0 (by simp))
  have h1 := top_one (s := 4) (by omega) (hv b1 (by simp))
  have hr := refL_add [b0, b1, b2, b3] 4 4 8 20
  have e1 : refL [b0, b1, b2, b3] 4 4 20 = refL [b1] 1 4 (8 - (4 : Nat)) := rfl
  have e2 : refL [b0, b1, b2, b3] 4 8 (20 + (4 : Nat)) = refL [b0] 1 8 (8 - (8 : Nat)) := rfl
  have hc : spareF 4 (b1 :: [b2, b3]) = spareF 4 [b1] := spare_cut (by omega) fun x hx => hv x (by simp at hx ⊢; omega)
  rw [show (12 : Nat) = 4 + 8 from rfl, hr, e1, e2, ← h0, ← h1]
  show (if b0.fdiv (2 ^ (min (8 - (8 : Int)).toNat 8)) = 0 then spareF 4 [b1, b2, b3] else false) = (spareF 4 [b1] && (if b0.fdiv (2 ^ (min (8 - (8 : Int)).toNat 8)) = 0 then true else false))
  rw [hc]
  split <;> simp
theorem fits_tab : ∀ k < 40, fIs (k : Nat) = true ∧ sizeF (k : Nat) = sizeR (k : Nat) ∧ bitsL.getD k 0 = bitsR (k : Nat) ∧ (8 * sizeR (k : Nat) - bitsR (k : Nat) = 0 ∨ k = 6 ∨ k = 7 ∨ k = 8 ∨ k = 9 ∨ k = 28 ∨ k = 34 ∨ k = 35 ∨ k = 36 ∨ k = 39) := by decide
theorem fits_law {n : Int} {v : List Int} (hv : ∀ b ∈ v, 0 ≤ b ∧ b ≤ 255) : fitsF n v = refFitsF n v := by
  by_cases hn : 0 ≤ n ∧ n < 40
  · obtain ⟨k, rfl⟩ : ∃ k : Nat, n = k := ⟨n.toNat, by omega⟩
    obtain ⟨h0, h1, h2, h3⟩ := fits_tab k (by omega)
    unfold fitsF refFitsF
    rw [h1]
    by_cases hl : (v.length : Int) = sizeR k
    · rw [if_pos ⟨hn, hl⟩, if_pos ⟨h0, hl⟩, Int.toNat_natCast, h2]
      have one : ∀ {s : Nat} {f : Nat} {i z : Int} {b : Int} {r : List Int}, v = b :: r → s ≤ 8 → f = s → (refL v z f i = refL [b] 1 s (8 - s)) → spareF s v = refL v z f i := fun {s f i z b r} e hs _ hr => by
        rw [hr, ← top_one hs (hv b (by rw [e]; simp)), e]
        exact spare_cut (by omega) fun x hx => hv x (by rw [e]; simp [hx])
      rcases h3 with h3 | rfl | rfl | rfl | rfl | rfl | rfl | rfl | rfl | rfl
      · rw [h3, spare0 v hv]; rfl
      · match v, hl with
        | [b0, b1], _ => exact one (s := 3) rfl (by omega) rfl rfl
      · match v, hl with
        | [b0], _ => exact one (s := 5) rfl (by omega) rfl rfl
      · match v, hl with
        | [b0], _ => exact one (s := 2) rfl (by omega) rfl rfl
      · match v, hl with
        | [b0], _ => exact one (s := 6) rfl (by omega) rfl rfl
      · match v, hl with
        | [b0, b1, b2, b3], _ => exact two rfl hv
      · match v, hl with
        | [b0, b1, b2, b3], _ => exact two rfl hv
      · match v, hl with
        | [b0], _ => exact one (s := 5) rfl (by omega) rfl rfl
      · match v, hl with
        | [b0], _ => exact one (s := 7) rfl (by omega) rfl rfl
      · match v, hl with
        | [b0, b1], _ => exact one (s := 7) rfl (by omega) rfl rfl
    · rw [if_neg (fun h => hl h.2), if_neg (fun h => hl h.2)]
  · unfold fitsF refFitsF
    rw [if_neg (fun h => hn h.1), if_neg (fun h => hn (fIs_t.1 h.1))]
end Go.Eng
