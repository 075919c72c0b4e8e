/- Contracts of functions of the given program, told by plain Lean functions. No condition. -/
import Derived.Test.YtmbcgankddgpjaaDoorProg
import Derived.Test.YtmbcgankddgpjaaDoorEArg
import Derived.KernelRfl
import Derived.Test.YtmbcgankddgpjaaDoorOE
namespace Go.Eng
open Go.Proofs
set_option linter.unusedVariables false
set_option linter.unusedSimpArgs false
set_option maxRecDepth 100000
set_option maxHeartbeats 1000000
theorem cons4 {l : List Int} (h : 4 ≤ l.length) : ∃ a b c d r, l = a :: b :: c :: d :: r := by
  obtain _ | ⟨a0, _ | ⟨a1, _ | ⟨a2, _ | ⟨a3, r⟩⟩⟩⟩ := l
  all_goals first | exact ⟨_, _, _, _, _, rfl⟩ | (simp at h; done)
theorem at2 (n : Int) : bytesN n 2 = [n.fdiv 256 % 256, n % 256] := by
  have e : bytesN n 2 = [(n.fdiv (2 ^ 8)) % 256, (n.fdiv (2 ^ 0)) % 256] := rfl
  rw [e, show (2 : Int) ^ 8 = 256 from rfl, Int.pow_zero, Int.fdiv_one]
theorem at4 (n : Int) : bytesN n 4 = [n.fdiv 16777216 % 256, n.fdiv 65536 % 256, n.fdiv 256 % 256, n % 256] := by
  have e : bytesN n 4 = [(n.fdiv (2 ^ 24)) % 256, (n.fdiv (2 ^ 16)) % 256, (n.fdiv (2 ^ 8)) % 256, (n.fdiv (2 ^ 0)) % 256] := rfl
  rw [e, show (2 : Int) ^ 8 = 256 from rfl, show (2 : Int) ^ 16 = 65536 from rfl, show (2 : Int) ^ 24 = 16777216 from rfl, Int.pow_zero, Int.fdiv_one]
theorem num2 {n : Int} (h : 0 ≤ n ∧ n ≤ 65535) : numL (bytesN n 2) = n := by
  rw [at2, Int.fdiv_eq_ediv_of_nonneg _ (by decide)]
  show (0 * 256 + n / 256 % 256) * 256 + n % 256 = n
  omega
theorem num4n {n : Int} (h : 0 ≤ n ∧ n ≤ 4294967295) : numL (bytesN n 4) = n := by
  rw [at4, Int.fdiv_eq_ediv_of_nonneg _ (by decide), Int.fdiv_eq_ediv_of_nonneg _ (by decide), Int.fdiv_eq_ediv_of_nonneg _ (by decide)]
  show (((0 * 256 + n / 16777216 % 256) * 256 + n / 65536 % 256) * 256 + n / 256 % 256) * 256 + n % 256 = n
  omega
theorem back2 {a b : Int} (ha : 0 ≤ a ∧ a ≤ 255) (hb : 0 ≤ b ∧ b ≤ 255) : bytesN (numL [a, b]) 2 = [a, b] := by
  have e : numL [a, b] = a * 256 + b := by show (0 * 256 + a) * 256 + b = _; omega
  rw [e, at2, Int.fdiv_eq_ediv_of_nonneg _ (by decide), show (a * 256 + b) / 256 % 256 = a by omega, show (a * 256 + b) % 256 = b by omega]
theorem back4 {a b c d : Int} (ha : 0 ≤ a ∧ a ≤ 255) (hb : 0 ≤ b ∧ b ≤ 255) (hc : 0 ≤ c ∧ c ≤ 255) (hd : 0 ≤ d ∧ d ≤ 255) : bytesN (numL [a, b, c, d]) 4 = [a, b, c, d] := by
  have e : numL [a, b, c, d] = ((a * 256 + b) * 256 + c) * 256 + d := by show (((0 * 256 + a) * 256 + b) * 256 + c) * 256 + d = _; omega
  rw [e, at4, Int.fdiv_eq_ediv_of_nonneg _ (by decide), Int.fdiv_eq_ediv_of_nonneg _ (by decide), Int.fdiv_eq_ediv_of_nonneg _ (by decide),
    show (((a * 256 + b) * 256 + c) * 256 + d) / 16777216 % 256 = a by omega, show (((a * 256 + b) * 256 + c) * 256 + d) / 65536 % 256 = b by omega,
    show (((a * 256 + b) * 256 + c) * 256 + d) / 256 % 256 = c by omega, show (((a * 256 + b) * 256 + c) * 256 + d) % 256 = d by omega]
def hI (h : Bool) : Int := if h = true then 1 else 0
/-- What the first four bytes say. -/
theorem head_of {c f : Int} {h : Bool} {x : Int} {v m : List Int} (hr : rightO c f h x v m = true) (hx : 0 ≤ x) (L : List Int) (h0 : L.take 4 = (refB c f h x v m).take 4) : decC L = c ∧ decF L = f ∧ decH L = h ∧ L.getD 3 0 = restO c v m := by
  obtain ⟨n1, n2, n3, n4, n5, n6, n7, n8⟩ := right_nums hr
  have hc : 0 ≤ c ∧ c ≤ 65535 := by omega
  have e1 : (refB c f h x v m).take 4 = [c.fdiv 256 % 256, c % 256, 2 * f + (if h = true then 1 else 0), restO c v m] := by
    unfold refB; rw [at2, ← n8]; rfl
  rw [e1] at h0
  have e2 : L.take 2 = bytesN c 2 := by
    rw [at2, show L.take 2 = (L.take 4).take 2 by rw [List.take_take]; rfl, h0]; rfl
  have e3 : ∀ k < 4, L.getD k 0 = (L.take 4).getD k 0 := fun k hk => (take_getD hk).symm
  have g2 : L.getD 2 0 = 2 * f + (if h = true then 1 else 0) := by rw [e3 2 (by decide), h0]; rfl
  have g3 : L.getD 3 0 = restO c v m := by rw [e3 3 (by decide), h0]; rfl
  refine ⟨?_, ?_, ?_, g3⟩
  · unfold decC; rw [e2, num2 hc]
  · unfold decF; rw [g2, tdiv_nn (by split <;> omega)]; split <;> omega
  · unfold decH; rw [g2, tmod_nn (by split <;> omega)]
    cases h with
    | true => exact decide_eq_true (by simp only [if_true]; omega)
    | false => exact decide_eq_false (by simp only [Bool.false_eq_true, if_false]; omega)
theorem len_of {c f : Int} {h : Bool} {x : Int} {v m : List Int} (hr : rightO c f h x v m = true) {L : List Int} (hC : decC L = c) (hF : decF L = f) (hH : decH L = h) (h3 : L.getD 3 0 = restO c v m) : decS L = v.length ∧ decK L = true := by
  obtain ⟨n1, n2, n3, n4, n5, n6, n7, n8⟩ := right_nums hr
  obtain ⟨r1, r2, r3, r4, r5, r6, r7, r8⟩ := right_len hr
  unfold decS decK
  rw [hC, hF, hH, h3]
  rcases n3 with hc | hc
  · have he : ofExtra c = true := decide_eq_true hc
    have hz : ofSize c f = 100 := if_pos hc
    have hre : restO c v m = v.length + m.length + 4 := if_pos hc
    unfold longS longK
    rw [he, hz, hre, if_pos rfl, if_pos rfl]
    cases h with
    | true =>
      have := r2 rfl
      simp only [if_true, Bool.and_eq_true, decide_eq_true_eq]
      rw [tdiv_nn (by omega), tmod_nn (by omega)]; omega
    | false =>
      have := r3 rfl
      simp only [Bool.false_eq_true, if_false, Bool.and_eq_true, decide_eq_true_eq]
      rw [tdiv_nn (by omega), tmod_nn (by omega)]; omega
  · have he : ofExtra c = false := decide_eq_false (by omega)
    have hz : ofSize c f = fSize f := if_neg (by omega)
    have hre : restO c v m = v.length + m.length := if_neg (by omega)
    have hv : (v.length : Int) = fSize f := by
      have hfit : fitsF f v = true := by
        cases hh : fitsF f v with
        | true => rfl
        | false =>
          rw [he] at r8
          unfold wrongF at r8; rw [if_pos ⟨rfl, hh⟩] at r8; exact absurd r8 (by decide)
      unfold fitsF at hfit
      split at hfit
      · rename_i hh
        have hi : fIs f = true := fIs_t.2 hh.1
        rw [hh.2]; unfold fSize; rw [hi]; rfl
      · cases hfit
    unfold longS longK
    rw [he, hz, hre]
    cases h with
    | true =>
      have := r2 rfl
      simp only [Bool.false_eq_true, if_false, if_true, decide_eq_true_eq]; omega
    | false =>
      have := r3 rfl
      simp only [Bool.false_eq_true, if_false, decide_eq_true_eq]; omega
theorem mid {p v r : List Int} {A S : Int} (hA : A = p.length) (hS : S = v.length) : ((p ++ (v ++ r)).take (A + S).toNat).drop A.toNat = v := by
  subst hA hS
  rw [show ((p.length : Int) + v.length).toNat = p.length + v.length by omega, Int.toNat_natCast, ← List.append_assoc, ← List.length_append, List.take_left, List.drop_left]
/-- What was encoded is decoded, whatever is behind. -/
theorem dec_enc {c f : Int} {h : Bool} {x : Int} {v m b : List Int} (hr : rightO c f h x v m = true) (hx : 0 ≤ x) : decE (refB c f h x v m ++ b) = 0 ∧ decC (refB c f h x v m ++ b) = c ∧ decF (refB c f h x v m ++ b) = f ∧ decH (refB c f h x v m ++ b) = h ∧ decX (refB c f h x v m ++ b) = x ∧ decV (refB c f h x v m ++ b) = v ∧ decM (refB c f h x v m ++ b) = m ∧ decN (refB c f h x v m ++ b) = (refB c f h x v m).length := by
  obtain ⟨n1, n2, n3, n4, n5, n6, n7, n8⟩ := right_nums hr
  obtain ⟨r1, r2, r3, r4, r5, r6, r7, r8⟩ := right_len hr
  have hl2 := bytesN_len (n := c) (w := 2) (by decide)
  have hl4 := bytesN_len (n := x) (w := 4) (by decide)
  have hlen : ((refB c f h x v m).length : Int) = 4 + restO c v m := by
    rw [n8]; unfold refB; simp only [List.length_append, List.length_cons, List.length_nil]; omega
  obtain ⟨L, hL⟩ : ∃ L, L = refB c f h x v m ++ b := ⟨_, rfl⟩
  have hLl : (L.length : Int) = 4 + restO c v m + b.length := by rw [hL, List.length_append]; omega
  have ht : L.take 4 = (refB c f h x v m).take 4 := by rw [hL, List.take_append_of_le_length (by omega)]
  obtain ⟨hC, hF, hH, h3⟩ := head_of hr hx L ht
  obtain ⟨hS, hK⟩ := len_of hr hC hF hH h3
  rw [← hL]
  have hsplit : L = (bytesN c 2 ++ [2 * f + (if h = true then 1 else 0), ((bodyR c x v m).length : Int)] ++ (if c = 65535 then bytesN x 4 else [])) ++ (v ++ (m ++ b)) := by
    rw [hL]; unfold refB; rw [show bodyR c x v m = (if c = 65535 then bytesN x 4 else []) ++ v ++ m from rfl]; simp only [List.append_assoc]
  obtain ⟨p, hp⟩ : ∃ p, p = bytesN c 2 ++ [2 * f + (if h = true then 1 else 0), ((bodyR c x v m).length : Int)] ++ (if c = 65535 then bytesN x 4 else []) := ⟨_, rfl⟩
  rw [← hp] at hsplit
  have hA : decA L = p.length := by
    unfold decA; rw [hC, hp]
    split
    · simp only [List.length_append, List.length_cons, List.length_nil]; omega
    · simp only [List.length_append, List.length_cons, List.length_nil]; omega
  have hX : decX L = x := by
    unfold decX; rw [hC]
    by_cases hc : c = 65535
    · rw [if_pos hc]
      have hx4 : x ≤ 4294967295 := by have := (zu x hx).1 r7; omega
      have e : (L.drop 4).take 4 = bytesN x 4 := by
        rw [hsplit, hp, if_pos hc, at2, at4]; rfl
      rw [e, num4n ⟨hx, hx4⟩]
    · rw [if_neg hc]
      have he : ofExtra c = false := decide_eq_false hc
      rw [he] at r6
      exact (r6.resolve_left (by decide)).symm
  have hV : decV L = v := by
    unfold decV; rw [hA, hS]; rw [hsplit]; exact mid rfl rfl
  have hM : decM L = m := by
    unfold decM
    cases h with
    | true =>
      rw [hH, if_pos rfl, hA, hS, hsplit, ← List.append_assoc]
      have := r2 rfl
      exact mid (p := p ++ v) (r := b) (by rw [List.length_append]; omega) (by omega)
    | false =>
      rw [hH]
      exact (List.eq_nil_of_length_eq_zero (r3 rfl)).symm
  have hN : decN L = (refB c f h x v m).length := by
    unfold decN; rw [hH, hS]
    have hre : restO c v m = (if c = 65535 then 4 else 0) + v.length + m.length := by unfold restO; split <;> omega
    rw [hlen, hre]
    unfold decA; rw [hC]
    cases h with
    | true => have := r2 rfl; simp only [if_true]; split <;> omega
    | false => have := r3 rfl; simp only [Bool.false_eq_true, if_false]; split <;> omega
  refine ⟨?_, hC, hF, hH, hX, hV, hM, hN⟩
  rw [dec_wrong (by omega) (by rw [hC, hF]; exact r4) (fun hh => by rw [hC, hF]; exact r5 (hH.symm.trans hh)) hK (by rw [h3]; omega), hC, hF, hH, hV, hM]
  exact r8
theorem dec_cut {c f : Int} {h : Bool} {x : Int} {v m : List Int} (hr : rightO c f h x v m = true) (hx : 0 ≤ x) (h4 : 4 < (refB c f h x v m).length) : decE ((refB c f h x v m).take ((refB c f h x v m).length - 1)) = 1026 := by
  obtain ⟨n1, n2, n3, n4, n5, n6, n7, n8⟩ := right_nums hr
  obtain ⟨r1, r2, r3, r4, r5, r6, r7, r8⟩ := right_len hr
  have hl2 := bytesN_len (n := c) (w := 2) (by decide)
  have hlen : ((refB c f h x v m).length : Int) = 4 + restO c v m := by
    rw [n8]; unfold refB; simp only [List.length_append, List.length_cons, List.length_nil]; omega
  obtain ⟨L, hL⟩ : ∃ L, L = (refB c f h x v m).take ((refB c f h x v m).length - 1) := ⟨_, rfl⟩
  have ht : L.take 4 = (refB c f h x v m).take 4 := by rw [hL, List.take_take, Nat.min_eq_left (by omega)]
  obtain ⟨hC, hF, hH, h3⟩ := head_of hr hx L ht
  obtain ⟨hS, hK⟩ := len_of hr hC hF hH h3
  have hLl : L.length = (refB c f h x v m).length - 1 := by rw [hL, List.length_take]; omega
  rw [← hL]
  unfold decE
  rw [if_neg (by omega), if_neg (by rw [hC, hF, r4]; decide), if_neg (fun hh => by rw [hC, hF, r5 (hH.symm.trans hh.1)] at hh; exact absurd hh.2 (by decide)), if_pos (.inr (by rw [h3]; omega))]
/-- What is decoded may be, and, encoded again, is those bytes. -/
theorem enc_dec {b : List Int} (hb : ∀ x ∈ b, 0 ≤ x ∧ x ≤ 255) (h0 : decE b = 0) : rightO (decC b) (decF b) (decH b) (decX b) (decV b) (decM b) = true ∧ refB (decC b) (decF b) (decH b) (decX b) (decV b) (decM b) = b.take (decN b).toNat ∧ 0 ≤ decN b ∧ decN b ≤ b.length := by
  have hq := bytes_le hb 2
  have hn := bytes_le hb 3
  have hof := of_le (decC b) (decF b)
  unfold decE at h0
  by_cases h4 : b.length < 4
  · rw [if_pos h4] at h0; exact absurd h0 (by decide)
  rw [if_neg h4] at h0
  by_cases hok : ofOk (decC b) (decF b) = false
  · rw [if_pos hok] at h0; exact absurd h0 (by decide)
  rw [if_neg hok] at h0
  by_cases hmk : decH b = true ∧ ofMask (decC b) (decF b) = false
  · rw [if_pos hmk] at h0; exact absurd h0 (by decide)
  rw [if_neg hmk] at h0
  by_cases hkl : decK b = false ∨ (b.length : Int) - 4 < b.getD 3 0
  · rw [if_pos hkl] at h0; exact absurd h0 (by decide)
  rw [if_neg hkl] at h0
  have hK : decK b = true := by cases hk : decK b with | true => rfl | false => exact absurd (.inl hk) hkl
  have hlen : 4 + b.getD 3 0 ≤ (b.length : Int) := by
    have : ¬ (b.length : Int) - 4 < b.getD 3 0 := fun h => hkl (.inr h)
    omega
  have hok' : ofOk (decC b) (decF b) = true := by simpa using hok
  obtain ⟨d1, d2, d3⟩ := dec_len hn.1 hof.1 hK
  have hcc : decC b = 65535 ∨ decC b = 32768 := by
    unfold ofOk at hok'
    split at hok'
    · left; assumption
    · right; simp only [Bool.and_eq_true, decide_eq_true_eq] at hok'; exact hok'.2
  have hA0 : 0 ≤ decA b := by unfold decA; split <;> decide
  have hVl : ((decV b).length : Int) = decS b := drop_take_len hA0 d1 (by unfold decN at d2; split at d2 <;> omega)
  have hMl : ((decM b).length : Int) = if decH b = true then decS b else 0 := by
    unfold decM
    by_cases hh : decH b = true
    · rw [if_pos hh, if_pos hh]
      exact drop_take_len (by omega) d1 (by unfold decN at d2; rw [if_pos hh] at d2; omega)
    · rw [if_neg hh, if_neg hh]; rfl
  have hX : 0 ≤ decX b ∧ decX b < 4294967296 := by
    unfold decX
    split
    · have := numL_le ((b.drop 4).take 4) fun y hy => hb y (List.mem_of_mem_drop (List.mem_of_mem_take hy))
      have h2 : ∀ k ≤ 4, (256 : Int) ^ k ≤ 4294967296 := by decide
      have := h2 ((b.drop 4).take 4).length (by rw [List.length_take]; omega)
      omega
    · decide
  have hR : rightO (decC b) (decF b) (decH b) (decX b) (decV b) (decM b) = true := by
    unfold rightO
    rw [hok', (zu _ hX.1).2 hX.2, h0, decide_eq_true (show ((decV b).length : Int) ≤ ofSize (decC b) (decF b) by omega)]
    have hx0 : (ofExtra (decC b) || decide (decX b = 0)) = true := by
      rcases hcc with hc | hc
      · rw [show ofExtra (decC b) = true from decide_eq_true hc]; rfl
      · rw [show decX b = 0 from if_neg (by omega)]; simp
    rw [hx0]
    cases hh : decH b with
    | true =>
      have hm1 : ofMask (decC b) (decF b) = true := by
        cases hq : ofMask (decC b) (decF b) with
        | true => rfl
        | false => exact absurd ⟨hh, hq⟩ hmk
      rw [hh, if_pos rfl] at hMl
      rw [hm1, decide_eq_true (show ((decM b).length : Int) = (decV b).length by omega)]; rfl
    | false =>
      rw [hh] at hMl
      simp only [Bool.false_eq_true, if_false] at hMl
      rw [decide_eq_true (show (decM b).length = 0 by omega)]; rfl
  refine ⟨hR, ?_, by omega, by omega⟩
  obtain ⟨a0, a1, a2, a3, r, hbd⟩ := cons4 (l := b) (by omega)
  have q0 := hb a0 (by rw [hbd]; simp)
  have q1 := hb a1 (by rw [hbd]; simp)
  have q2 := hb a2 (by rw [hbd]; simp)
  have q3 := hb a3 (by rw [hbd]; simp)
  obtain ⟨n1, n2, n3, n4, n5, n6, n7, n8⟩ := right_nums hR
  have g2 : b.getD 2 0 = a2 := by rw [hbd]; rfl
  have g3 : b.getD 3 0 = a3 := by rw [hbd]; rfl
  have c2 : bytesN (decC b) 2 = [a0, a1] := by unfold decC; rw [hbd]; exact back2 q0 q1
  have hf : 2 * decF b + (if decH b = true then 1 else 0) = a2 := by
    unfold decF decH; rw [g2, tdiv_nn q2.1, tmod_nn q2.1]
    by_cases h1 : a2 % 2 = 1
    · rw [decide_eq_true h1, if_pos rfl]; omega
    · rw [decide_eq_false h1]; simp only [Bool.false_eq_true, if_false]; omega
  have hrl : restO (decC b) (decV b) (decM b) = a3 := by
    unfold restO
    rw [hVl, hMl, ← g3]
    unfold decN decA at d2
    by_cases hh : decH b = true
    · rw [if_pos hh] at d2 ⊢
      by_cases hc : decC b = 65535
      · rw [if_pos hc] at d2 ⊢; omega
      · rw [if_neg hc] at d2 ⊢; omega
    · rw [if_neg hh] at d2 ⊢
      by_cases hc : decC b = 65535
      · rw [if_pos hc] at d2 ⊢; omega
      · rw [if_neg hc] at d2 ⊢; omega
  have hbody : bodyR (decC b) (decX b) (decV b) (decM b) = r.take a3.toNat := by
    have hdr : b.drop 4 = r := by rw [hbd]; rfl
    have hXb : (if decC b = 65535 then bytesN (decX b) 4 else []) = (b.take (decA b).toNat).drop 4 := by
      by_cases hc : decC b = 65535
      · have hA8 : decA b = 8 := if_pos hc
        have hl8 : 8 ≤ b.length := by unfold decN at d2; rw [hA8] at d2; split at d2 <;> omega
        rw [if_pos hc, hA8]
        have hXe : decX b = numL ((b.drop 4).take 4) := if_pos hc
        rw [hXe, hdr]
        have hrl8 : 4 ≤ r.length := by rw [hbd] at hl8; simp only [List.length_cons] at hl8; omega
        obtain ⟨x0, x1, x2, x3, s, hrd⟩ := cons4 hrl8
        have hmr : ∀ y ∈ r, 0 ≤ y ∧ y ≤ 255 := fun y hy => hb y (by rw [hbd]; simp [hy])
        have y0 := hmr x0 (by rw [hrd]; simp)
        have y1 := hmr x1 (by rw [hrd]; simp)
        have y2 := hmr x2 (by rw [hrd]; simp)
        have y3 := hmr x3 (by rw [hrd]; simp)
        rw [hrd, show (x0 :: x1 :: x2 :: x3 :: s).take 4 = [x0, x1, x2, x3] from rfl, back4 y0 y1 y2 y3, hbd, hrd]; rfl
      · have hA4 : decA b = 4 := if_neg hc
        rw [if_neg hc, hA4, hbd]; rfl
    unfold bodyR
    rw [hXb]
    have hAn : 4 ≤ (decA b).toNat := by unfold decA; split <;> decide
    have j1 : ∀ (i j k : Nat), i ≤ j → j ≤ k → (b.take j).drop i ++ (b.take k).drop j = (b.take k).drop i := fun i j k h1 h2 => by
      rw [show (b.take k).drop i = ((b.take k).drop i).take (j - i) ++ ((b.take k).drop i).drop (j - i) from (List.take_append_drop ..).symm, List.drop_drop, show i + (j - i) = j by omega, List.take_drop, show i + (j - i) = j by omega, List.take_take, Nat.min_eq_left h2]
    have hfin : ∀ k : Nat, (k : Int) = decN b → (b.take k).drop 4 = r.take a3.toNat := fun k hk => by
      rw [hbd, show k = a3.toNat + 4 by omega]; rfl
    unfold decV decM
    by_cases hh : decH b = true
    · rw [if_pos hh, j1 _ _ _ hAn (by omega), j1 _ _ _ (by omega) (by omega)]
      refine hfin _ ?_
      unfold decN; rw [if_pos hh]; omega
    · rw [if_neg hh, List.append_nil, j1 _ _ _ hAn (by omega)]
      refine hfin _ ?_
      unfold decN; rw [if_neg hh]; omega
  unfold refB
  rw [c2, hf, ← n8, hrl, hbody, d2, g3]
  rw [hbd, show (4 + a3).toNat = a3.toNat + 4 by omega]; rfl
end Go.Eng
