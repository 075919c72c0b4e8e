/- Contracts of functions of the given program, told by plain Lean functions. No condition. -/
import Derived.Test.YtmbcgankddgpjaaDoorProg
import Derived.Test.YtmbcgankddgpjaaDoorEArg
import Derived.KernelRfl
import Derived.Test.YtmbcgankddgpjaaDoorOA
namespace Go.Eng
open Go.Proofs
set_option linter.unusedVariables false
set_option linter.unusedSimpArgs false
set_option maxRecDepth 100000
set_option maxHeartbeats 1000000
theorem ion : ∀ x < 256, ∀ y < 256, (bitop .andNot .u8 ((x : Nat) : Int) ((y : Nat) : Int) = 0 ↔ bitop .and .u8 ((x : Nat) : Int) ((y : Nat) : Int) = ((x : Nat) : Int)) := by decide +kernel
theorem out_in : ∀ (v m : List Int), (∀ x ∈ v, 0 ≤ x ∧ x ≤ 255) → (∀ x ∈ m, 0 ≤ x ∧ x ≤ 255) → outA v m = !inA v m
  | [], _, _, _ => by simp [outA, inA]
  | _ :: _, [], _, _ => by simp [outA, inA]
  | x :: r, y :: l, hv, hm => by
    have hx := hv x (by simp)
    have hy := hm y (by simp)
    have ih := out_in r l (fun a ha => hv a (by simp [ha])) (fun a ha => hm a (by simp [ha]))
    have h := ion x.toNat (by omega) y.toNat (by omega)
    rw [Int.toNat_of_nonneg hx.1, Int.toNat_of_nonneg hy.1] at h
    unfold outA inA
    by_cases h1 : bitop .andNot .u8 x y = 0
    · rw [if_pos h1, if_pos (h.1 h1), ih]
    · rw [if_neg h1, if_neg (fun h2 => h1 (h.2 h2))]; rfl
theorem refO_add (b : List Int) : ∀ (f g : Nat) (i : Int), refO b (f + g) i = (refO b f i && refO b g (i + f))
  | 0, g, i => by rw [Nat.zero_add, show i + ((0 : Nat) : Int) = i by omega]; unfold refO; rfl
  | f + 1, g, i => by
    rw [show f + 1 + g = (f + g) + 1 by omega]
    by_cases h : bitop .and .u8 ((b.getD (b.length - 1 - i.tdiv 8 : Int).toNat 0).fdiv (2 ^ (min (i.tmod 8).toNat 8))) 1 = 0
    · rw [refO_f h, refO_f h, Bool.false_and]
    · rw [refO_t h, refO_t h, refO_add b f g (i + 1), show i + 1 + (f : Int) = i + ((f + 1 : Nat) : Int) by omega]
theorem refO_cons (x : Int) (r : List Int) : ∀ (f : Nat) (i : Int), 0 ≤ i → i + f ≤ 8 * r.length → refO (x :: r) f i = refO r f i
  | 0, _, _, _ => rfl
  | f + 1, i, h0, h => by
    have ih := refO_cons x r f (i + 1) (by omega) (by omega)
    have e : (x :: r).getD (((x :: r).length : Int) - 1 - i.tdiv 8).toNat 0 = r.getD ((r.length : Int) - 1 - i.tdiv 8).toNat 0 := by
      rw [tdiv_nn h0, List.length_cons, show (((r.length + 1 : Nat) : Int) - 1 - i / 8).toNat = ((r.length : Int) - 1 - i / 8).toNat + 1 by omega]; rfl
    by_cases hc : bitop .and .u8 ((r.getD ((r.length : Int) - 1 - i.tdiv 8).toNat 0).fdiv (2 ^ (min (i.tmod 8).toNat 8))) 1 = 0
    · rw [refO_f hc, refO_f (by rw [e]; exact hc)]
    · rw [refO_t hc, refO_t (by rw [e]; exact hc), ih]
theorem refO_head (x : Int) (r : List Int) : ∀ (f : Nat) (i : Int), 0 ≤ i → i + f ≤ 8 → refO (x :: r) f (8 * r.length + i) = refO [x] f i
  | 0, _, _, _ => rfl
  | f + 1, i, h0, h => by
    have ih := refO_head x r f (i + 1) (by omega) (by omega)
    have h8 : 0 ≤ 8 * (r.length : Int) + i := by omega
    have e : (x :: r).getD (((x :: r).length : Int) - 1 - (8 * (r.length : Int) + i).tdiv 8).toNat 0 = [x].getD ((([x] : List Int).length : Int) - 1 - i.tdiv 8).toNat 0 := by
      rw [tdiv_nn h8, tdiv_nn h0, List.length_cons, List.length_cons, List.length_nil, show (((r.length + 1 : Nat) : Int) - 1 - (8 * (r.length : Int) + i) / 8).toNat = 0 by omega, show (((0 + 1 : Nat) : Int) - 1 - i / 8).toNat = 0 by omega]; rfl
    have e2 : (8 * (r.length : Int) + i).tmod 8 = i.tmod 8 := by rw [tmod_nn h8, tmod_nn h0]; omega
    by_cases hc : bitop .and .u8 (([x].getD ((([x] : List Int).length : Int) - 1 - i.tdiv 8).toNat 0).fdiv (2 ^ (min (i.tmod 8).toNat 8))) 1 = 0
    · rw [refO_f hc, refO_f (by rw [e, e2]; exact hc)]
    · rw [refO_t hc, refO_t (by rw [e, e2]; exact hc), Int.add_assoc, ih]
theorem ones0 : ∀ s < 8, ∀ x < 256, spareF (s : Nat) [((x : Nat) : Int)] = true → (((x : Nat) : Int) = ownA (s : Nat) ↔ refO [((x : Nat) : Int)] (8 - s) 0 = true) := by decide +kernel
theorem own0 : ownA 0 = 255 := by decide
theorem onesA_neg : ∀ (r : List Int) (s : Int), s ≤ 0 → onesA r s = onesA r 0
  | [], _, _ => by simp [onesA]
  | x :: r, s, h => by
    have h1 : ownA s = 255 := if_neg (by omega)
    have ih := onesA_neg r (s - 8) (by omega)
    have ih0 := onesA_neg r (0 - 8) (by omega)
    unfold onesA
    rw [h1, own0, ih, ih0]
theorem spare_one {s x : Int} (r : List Int) (hs : s ≤ 8) (h : spareF s (x :: r) = true) : spareF s [x] = true := by
  by_cases h1 : x.fdiv (2 ^ (min (8 - (if 8 < s then 8 else s)).toNat 8)) = 0
  · exact if_pos h1
  · have e : spareF s (x :: r) = false := if_neg h1
    rw [e] at h; cases h
theorem ones_law : ∀ (m : List Int) (s : Int), (∀ x ∈ m, 0 ≤ x ∧ x ≤ 255) → 0 ≤ s → s ≤ 8 * m.length → spareF s m = true → onesA m s = refO m (8 * m.length - s).toNat 0
  | [], s, _, h0, h1, _ => by
    have : s = 0 := by simp at h1; omega
    subst this; rfl
  | x :: r, s, hm, h0, h1, hs => by
    have hx := hm x (by simp)
    have hr : ∀ a ∈ r, 0 ≤ a ∧ a ≤ 255 := fun a ha => hm a (by simp [ha])
    rw [List.length_cons] at h1
    by_cases h8 : 8 ≤ s
    · have hsp : x = 0 ∧ spareF (s - 8) r = true := by
        have h8' : (if 8 < s then 8 else s) = 8 := by split <;> omega
        have e : spareF s (x :: r) = if x.fdiv (2 ^ (min (8 - (if 8 < s then 8 else s)).toNat 8)) = 0 then spareF (s - (if 8 < s then 8 else s)) r else false := rfl
        rw [h8', show (min (8 - 8 : Int).toNat 8) = 0 from rfl, Int.pow_zero, Int.fdiv_one] at e
        rw [e] at hs
        by_cases h9 : x = 0
        · rw [if_pos h9] at hs; exact ⟨h9, hs⟩
        · rw [if_neg h9] at hs; cases hs
      have ho : ownA s = 0 := by
        unfold ownA
        rw [if_pos (by omega)]
        by_cases h9 : 8 < s
        · rw [if_pos h9]; decide
        · rw [if_neg h9, show s = 8 by omega]; decide
      have ih := ones_law r (s - 8) hr (by omega) (by omega) hsp.2
      have hn : (8 * (((x :: r).length : Nat) : Int) - s).toNat = (8 * (r.length : Int) - (s - 8)).toNat := by rw [List.length_cons]; omega
      unfold onesA
      rw [if_pos (by rw [ho]; exact hsp.1), ih, hn, refO_cons x r _ 0 (by omega) (by omega)]
    · have hs1 := spare_one r (by omega) hs
      have h2 := ones0 s.toNat (by omega) x.toNat (by omega)
      rw [Int.toNat_of_nonneg h0, Int.toNat_of_nonneg hx.1] at h2
      have h3 := h2 hs1
      have hsr : spareF 0 r = true := spare0 r hr
      have ih := ones_law r 0 hr (Int.le_refl _) (by omega) hsr
      have hn : (8 * (((x :: r).length : Nat) : Int) - s).toNat = 8 * r.length + (8 - s.toNat) := by rw [List.length_cons]; omega
      have hn0 : (8 * (r.length : Int) - 0).toNat = 8 * r.length := by omega
      have hhd := refO_head x r (8 - s.toNat) 0 (Int.le_refl _) (by omega)
      rw [Int.add_zero] at hhd
      rw [hn0] at ih
      unfold onesA
      rw [hn, refO_add, refO_cons x r _ 0 (by omega) (by omega), show (0 : Int) + ((8 * r.length : Nat) : Int) = 8 * (r.length : Int) by omega, hhd, onesA_neg r (s - 8) (by omega), ih]
      by_cases hc : x = ownA s
      · rw [if_pos hc, h3.1 hc, Bool.and_true]
      · rw [if_neg hc, show refO [x] (8 - s.toNat) 0 = false by
          cases hq : refO [x] (8 - s.toNat) 0 with
          | false => rfl
          | true => exact absurd (h3.2 hq) hc, Bool.and_false]
theorem ones_basic {f : Int} {m : List Int} (hm : ∀ x ∈ m, 0 ≤ x ∧ x ≤ 255) (h : fitsF f m = true) : onesF m (fBits f) = refO m (bitsR f).toNat 0 := by
  unfold fitsF at h
  split at h
  · rename_i hh
    have hi : fIs f = true := fIs_t.2 hh.1
    have hz := size_le f.toNat (by omega)
    rw [Int.toNat_of_nonneg hh.1.1] at hz
    have hb : fBits f = bitsL.getD f.toNat 0 := if_pos hi
    have hbl := bits_le f.toNat (by omega)
    have ho := ones_law m (m.length * 8 - fBits f) hm (by omega) (by omega) (by rw [hb, show (m.length : Int) * 8 - bitsL.getD f.toNat 0 = 8 * sizeF f - bitsL.getD f.toNat 0 by omega]; exact h)
    unfold onesF
    rw [ho, ← (law8 f).1, show (8 * (m.length : Int) - (m.length * 8 - fBits f)) = fBits f by omega]
  · cases h
theorem ones_extra {m : List Int} (hm : ∀ x ∈ m, 0 ≤ x ∧ x ≤ 255) : onesF m (m.length * 8) = refO m (8 * (m.length : Int)).toNat 0 := by
  have ho := ones_law m 0 hm (Int.le_refl _) (by omega) (spare0 m hm)
  unfold onesF
  rw [show (m.length : Int) * 8 - m.length * 8 = 0 by omega, ho, Int.sub_zero]
theorem wrong_law {c f : Int} {h : Bool} {v m : List Int} (hv : ∀ x ∈ v, 0 ≤ x ∧ x ≤ 255) (hm : ∀ x ∈ m, 0 ≤ x ∧ x ≤ 255) (hc : c = 32768 ∨ c = 65535) : wrongF f h v m (ofBits c f) (ofExtra c) = refW c f h v m := by
  have hoi := out_in v m hv hm
  have hio : (outA v m = true) = (inA v m = false) := by rw [hoi]; simp
  rcases hc with hc | hc
  · have he : ofExtra c = false := decide_eq_false (by omega)
    have hb : ofBits c f = fBits f := if_neg (by omega)
    have f1 := fits_law (n := f) hv
    have f2 := fits_law (n := f) hm
    unfold wrongF refW
    rw [he, hb, f1, f2]
    simp only [hio, hc, true_and, if_true, Bool.false_eq_true, if_false]
    cases h4 : refFitsF f m with
    | true =>
      have ho := ones_basic hm (f2.trans h4)
      rw [ho]
    | false =>
      cases h with
      | true => simp
      | false => simp
  · have he : ofExtra c = true := decide_eq_true hc
    have hn : ¬ c = 32768 := by omega
    have ho := ones_extra hm
    unfold wrongF refW
    rw [he]
    simp only [hio, hn, false_and, if_true, if_false, reduceCtorEq, ho, and_false]
theorem zf (x : Int) (h : x = 0) : x.fdiv (2 ^ (min (Int.toNat 32) IntKind.u64.bits)) = 0 := by subst h; decide
theorem zu (x : Int) (h0 : 0 ≤ x) : x.fdiv (2 ^ (min (Int.toNat 32) IntKind.u64.bits)) = 0 ↔ x < 4294967296 := by
  rw [show (2 : Int) ^ (min (Int.toNat 32) IntKind.u64.bits) = 4294967296 from by decide, Int.fdiv_eq_ediv_of_nonneg _ (by decide)]; omega
theorem refW_fit {f : Int} {h : Bool} {v m : List Int} (hw : refW 32768 f h v m = 0) : refFitsF f v = true := by
  cases hh : refFitsF f v with
  | true => rfl
  | false => unfold refW at hw; rw [if_pos ⟨rfl, hh⟩] at hw; exact absurd hw (by decide)
theorem right_law {c f : Int} {h : Bool} {x : Int} {v m : List Int} (hx : 0 ≤ x) (hv : ∀ x ∈ v, 0 ≤ x ∧ x ≤ 255) (hm : ∀ x ∈ m, 0 ≤ x ∧ x ≤ 255) : rightO c f h x v m = refR c f h x v m := by
  by_cases hb : c = 32768
  · have hw := wrong_law (f := f) (h := h) hv hm (.inl hb)
    have hok : ofOk c f = fIs f := by unfold ofOk; rw [if_neg (by omega), decide_eq_true hb, Bool.and_true]
    have hmk : ofMask c f = maskR f := by unfold ofMask; rw [if_neg (by omega)]; exact (law8 f).2.2
    have he : ofExtra c = false := decide_eq_false (by omega)
    have hz : ofSize c f = sizeR f := by unfold ofSize; rw [if_neg (by omega)]; exact (law8 f).2.1
    rw [Bool.eq_iff_iff]
    constructor
    · intro hr
      obtain ⟨r1, r2, r3, r4, r5, r6, r7, r8⟩ := right_len hr
      unfold refR
      rw [if_neg (fun hh => hh.elim (fun hh => by have := r3 hh.1; omega) fun hh => hh.2 (r2 hh.1)), if_pos hb]
      rw [hw] at r8; rw [hok] at r4; rw [hmk] at r5; rw [he] at r6
      have hx0 : x = 0 := by simpa using r6
      rw [r4, hx0, r8]
      cases h with
      | true => rw [r5 rfl]; rfl
      | false => rfl
    · intro hr
      unfold refR at hr
      by_cases hn : (h = false ∧ 0 < m.length) ∨ (h = true ∧ ¬ (m.length : Int) = v.length)
      · rw [if_pos hn] at hr; cases hr
      · rw [if_neg hn, if_pos hb] at hr
        simp only [Bool.and_eq_true, Bool.or_eq_true, decide_eq_true_eq] at hr
        obtain ⟨⟨⟨h1, h2⟩, h3⟩, h4⟩ := hr
        have hfit := refW_fit (hb ▸ h4)
        have hsz := ref_fit hfit
        unfold rightO
        rw [hw, hok, hmk, he, hz, h1, h4, zf x h2, decide_eq_true h2]
        have hvl : decide ((v.length : Int) ≤ sizeR f) = true := decide_eq_true (by omega)
        rw [hvl]
        cases h with
        | true =>
          have : (m.length : Int) = v.length := Decidable.by_contra fun hh => hn (.inr ⟨rfl, hh⟩)
          rw [decide_eq_true this]
          simpa using h3
        | false =>
          have : m.length = 0 := by have : ¬ 0 < m.length := fun hh => hn (.inl ⟨rfl, hh⟩); omega
          rw [decide_eq_true this]; rfl
  · by_cases hc : c = 65535
    · have hw := wrong_law (f := f) (h := h) hv hm (.inr hc)
      have hok : ofOk c f = (decide (0 ≤ f) && decide (f ≤ 127)) := if_pos hc
      have hmk : ofMask c f = true := if_pos hc
      have he : ofExtra c = true := decide_eq_true hc
      have hz : ofSize c f = 100 := if_pos hc
      rw [Bool.eq_iff_iff]
      constructor
      · intro hr
        obtain ⟨r1, r2, r3, r4, r5, r6, r7, r8⟩ := right_len hr
        unfold refR
        rw [if_neg (fun hh => hh.elim (fun hh => by have := r3 hh.1; omega) fun hh => hh.2 (r2 hh.1)), if_neg hb]
        rw [hw] at r8; rw [hok] at r4; rw [hz] at r1
        have h7 := (zu x hx).1 r7
        simp only [Bool.and_eq_true, decide_eq_true_eq] at r4 ⊢
        exact ⟨⟨⟨⟨⟨hc, r4.1⟩, r4.2⟩, h7⟩, r1⟩, r8⟩
      · intro hr
        unfold refR at hr
        by_cases hn : (h = false ∧ 0 < m.length) ∨ (h = true ∧ ¬ (m.length : Int) = v.length)
        · rw [if_pos hn] at hr; cases hr
        · rw [if_neg hn, if_neg hb] at hr
          simp only [Bool.and_eq_true, decide_eq_true_eq] at hr
          obtain ⟨⟨⟨⟨⟨h1, h2⟩, h3⟩, h4⟩, h5⟩, h6⟩ := hr
          unfold rightO
          rw [hw, hok, hmk, he, hz, h6, (zu x hx).2 h4, decide_eq_true h2, decide_eq_true h3, decide_eq_true h5]
          cases h with
          | true =>
            have : (m.length : Int) = v.length := Decidable.by_contra fun hh => hn (.inr ⟨rfl, hh⟩)
            rw [decide_eq_true this]; rfl
          | false =>
            have : m.length = 0 := by have : ¬ 0 < m.length := fun hh => hn (.inl ⟨rfl, hh⟩); omega
            rw [decide_eq_true this]; rfl
    · have hok : ofOk c f = false := by unfold ofOk; rw [if_neg hc, decide_eq_false hb, Bool.and_false]
      have h1 : rightO c f h x v m = false := by unfold rightO; rw [hok]; rfl
      have h2 : refR c f h x v m = false := by
        unfold refR; split
        · rfl
        · first | (rw [decide_eq_false hc]; rfl) | (rw [if_neg hb, decide_eq_false hc]; rfl)
      rw [h1, h2]
theorem byte1 {n : Int} (h : 0 ≤ n ∧ n ≤ 255) : bytesN n 1 = [n] := by
  show [(n.fdiv (2 ^ (min (8 * ((1 : Int) - 1 - ((0 : Nat) : Int))).toNat 64))) % 256] = [n]
  rw [show (min (8 * ((1 : Int) - 1 - ((0 : Nat) : Int))).toNat 64) = 0 from by decide, Int.pow_zero, Int.fdiv_one]
  congr 1; omega
theorem right_nums {c f : Int} {h : Bool} {x : Int} {v m : List Int} (hr : rightO c f h x v m = true) : 0 ≤ f ∧ f ≤ 127 ∧ (c = 65535 ∨ c = 32768) ∧ (v.length : Int) ≤ 100 ∧ (m.length : Int) ≤ 100 ∧ 0 ≤ restO c v m ∧ restO c v m ≤ 204 ∧ restO c v m = (bodyR c x v m).length := by
  obtain ⟨r1, r2, r3, r4, _⟩ := right_len hr
  have hof := of_le c f
  have hm : (m.length : Int) ≤ 100 := by cases h; have := r3 rfl; omega; have := r2 rfl; omega
  have hb : restO c v m = (bodyR c x v m).length := by
    have l4 := bytesN_len (n := x) (w := 4) (by decide)
    unfold restO bodyR
    split
    · rw [List.length_append, List.length_append]; omega
    · rw [List.length_append, List.length_append, List.length_nil]; omega
  have h0 : 0 ≤ restO c v m ∧ restO c v m ≤ 204 := by unfold restO; split <;> omega
  have hcf : 0 ≤ f ∧ f ≤ 127 ∧ (c = 65535 ∨ c = 32768) := by
    unfold ofOk at r4
    split at r4
    · simp at r4; omega
    · simp at r4; have := fIs_t.1 r4.1; omega
  exact ⟨hcf.1, hcf.2.1, hcf.2.2, by omega, hm, h0.1, h0.2, hb⟩
theorem enc_law {c f : Int} {h : Bool} {x : Int} {v m : List Int} (hr : rightO c f h x v m = true) : encO c f h x v m = refB c f h x v m := by
  obtain ⟨n1, n2, n3, n4, n5, n6, n7, n8⟩ := right_nums hr
  unfold encO headO refB
  rw [byte1 (n := 2 * f + if h = true then 1 else 0) (by split <;> omega), byte1 (n := restO c v m) (by omega), n8]
  unfold bodyR
  simp only [List.append_assoc, List.cons_append, List.nil_append]
theorem size_law {c f : Int} {h : Bool} {x : Int} {v m : List Int} : sizeO c f h x v m = ((if rightO c f h x v m = true then refB c f h x v m else []).length : Int) := by
  unfold sizeO
  split
  · rename_i hr
    obtain ⟨n1, n2, n3, n4, n5, n6, n7, n8⟩ := right_nums hr
    have l2 := bytesN_len (n := c) (w := 2) (by decide)
    unfold refB
    rw [n8]
    simp only [List.length_append, List.length_cons, List.length_nil]; omega
  · rfl
theorem dec_law {b : List Int} (hb : ∀ x ∈ b, 0 ≤ x ∧ x ≤ 255) : decE b = rE b := by
  unfold decE rE
  split
  · rfl
  · split
    · rfl
    · rename_i hok
      split
      · rfl
      · split
        · rfl
        · have hc : decC b = 32768 ∨ decC b = 65535 := by
            unfold ofOk at hok
            split at hok
            · right; assumption
            · left; by_cases h : decC b = 32768
              · exact h
              · rw [decide_eq_false h, Bool.and_false] at hok; exact absurd rfl hok
          refine wrong_law (fun x hx => ?_) (fun x hx => ?_) hc
          · exact hb x (List.mem_of_mem_take (List.mem_of_mem_drop hx))
          · unfold decM at hx
            split at hx
            · exact hb x (List.mem_of_mem_take (List.mem_of_mem_drop hx))
            · cases hx
def L1 : List Int := [128, 0, 10, 2, 8, 0, 7]
def L2 : List Int := [128, 0, 11, 4, 8, 0, 8, 0]
theorem s1 : decE L1 = 0 ∧ decI L1 (decC L1) = 32768 ∧ decI L1 (decF L1) = 5 ∧ decH L1 = false ∧ decI L1 (decX L1) = 0 ∧ decR L1 (decV L1) = [8, 0] ∧ decR L1 (decM L1) = [] ∧ decI L1 (decN L1) = 6 ∧ decE L2 = 1033 := by decide +kernel
theorem s2 : rightO 32768 5 false 0 [8, 0] [] = true ∧ encO 32768 5 false 0 [8, 0] [] = [128, 0, 10, 2, 8, 0] := by decide +kernel
end Go.Eng
