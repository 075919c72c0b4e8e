/- Contracts of functions of the given program, told by plain Lean functions. No condition. -/
import Derived.Test.YtoejpijobbcooaaGreatDoorProg
import Derived.Test.YtoejpijobbcooaaGreatDoorEArg
import Derived.KernelRfl
import Derived.Test.YtoejpijobbcooaaGreatDoorA4
import Derived.Test.YtoejpijobbcooaaGreatDoorOG
namespace Go.Eng
open Go.Proofs
set_option linter.unusedVariables false
set_option linter.unusedSimpArgs false
set_option maxRecDepth 100000
set_option maxHeartbeats 1000000
def bd (b : List Int) : List Int := (b.take (tN b).toNat).drop 4
def setE (b : List Int) : Int := if decE b = 0 then (if ¬ (decC b = 32768 ∧ settF (decF b) = true) then 526 else if decH b = true then 528 else if decN b + 8 ≤ b.length then 527 else if zeroL (b.drop (decN b).toNat) = true then 0 else 528) else if decE b = 1026 then 527 else if decE b = 1031 then 526 else 528
def plE (t : Int) (y : List Int) : Int := if ¬ t = 65535 ∧ ¬ (y.length : Int) = sizeW (rowT t) then 514 else if getK (rowT t) y = 1 then 514 else if getK (rowT t) y = 2 then 518 else askF t ((getL (rowT t) y).getD 0 0)
def acE (b : List Int) : Int := if ¬ tlE b 8 8 514 = 0 then tlE b 8 8 514 else if tT b = 25 then setE (bd b) else if rowK (tT b) = true then plE (tT b) (bd b) else 513
def acI (b : List Int) (x : Int) : Int := if acE b = 0 then x else 0
def acA (b : List Int) (k : Nat) : Int := acI b (if tT b = 25 then 0 else (getL (rowT (tT b)) (bd b)).getD k 0)
def acS (b : List Int) (x : Int) : Int := acI b (if tT b = 25 then x else 0)
def acH (b : List Int) : Bool := decide (acE b = 0) && decide (tT b = 25) && decH (bd b)
def acV (b l : List Int) : List Int := if acE b = 0 then (if tT b = 25 then l else []) else []
def acD (b : List Int) : List Int := if acE b = 0 then (if tT b = 25 then [] else (bd b).drop (sizeW (rowT (tT b))).toNat) else []
theorem getA_len2 : ∀ (w b o : List Int), (getA w b o).2 = 0 ∨ (getA w b o).2 = 1 ∨ (getA w b o).2 = 2
  | [], b, o => .inl rfl
  | n :: r, b, o => by
    simp only [getA]
    split
    · exact .inr (.inl rfl)
    · split
      · exact getA_len2 r _ _
      · split
        · exact getA_len2 r _ _
        · exact .inr (.inr rfl)
theorem getK_of (w b : List Int) : getK w b = 0 ∨ getK w b = 1 ∨ getK w b = 2 := by
  unfold getK getF; split
  · exact getA_len2 w b []
  · exact .inr (.inr rfl)
theorem nums_get {t a b : Int} (h2 : 2 ≤ countW (rowT t) ∨ b = 0) (h1 : 1 ≤ countW (rowT t) ∨ a = 0) : (numsA t a b).getD 0 0 = a ∧ (numsA t a b).getD 1 0 = b := by
  have hc := cnt_le t
  unfold numsA
  generalize countW (rowT t) = n at *
  have : n = 0 ∨ n = 1 ∨ n = 2 := by omega
  rcases this with rfl | rfl | rfl
  · have ha : a = 0 := by omega
    have hb : b = 0 := by omega
    subst ha; subst hb; exact ⟨rfl, rfl⟩
  · have hb : b = 0 := by omega
    subst hb; exact ⟨rfl, rfl⟩
  · exact ⟨rfl, rfl⟩
theorem nums_of {t : Int} {l : List Int} (h : (l.length : Int) = countW (rowT t)) : numsA t (l.getD 0 0) (l.getD 1 0) = l ∧ (2 ≤ countW (rowT t) ∨ l.getD 1 0 = 0) ∧ (1 ≤ countW (rowT t) ∨ l.getD 0 0 = 0) := by
  have hc := cnt_le t
  unfold numsA
  rw [← h, Int.toNat_natCast]
  rcases l with _ | ⟨p, _ | ⟨q, _ | ⟨r, s⟩⟩⟩
  · exact ⟨rfl, .inr rfl, .inr rfl⟩
  · exact ⟨rfl, .inr rfl, .inl (by simp)⟩
  · exact ⟨rfl, .inl (by simp), .inl (by simp)⟩
  · simp only [List.length_cons] at h; omega
theorem same_zero {c f : Int} {h : Bool} {x : Int} {v m : List Int} (hs : sameO c f h x v m 0 0 false 0 [] [] = true) : c = 0 ∧ f = 0 ∧ h = false ∧ x = 0 ∧ v = [] ∧ m = [] := by
  unfold sameO at hs
  simp only [Bool.and_eq_true, decide_eq_true_eq, beq_iff_eq] at hs
  obtain ⟨⟨⟨⟨⟨h1, h2⟩, h3⟩, h4⟩, h5⟩, h6⟩ := hs
  exact ⟨h1, h2, h4, h3, h5, h6⟩
/-- What was encoded is decoded, whatever is behind. -/
theorem head_law {t N : Int} {body rest : List Int} (ht : 0 ≤ t ∧ t ≤ 65535) (hN : N = 4 + body.length) (h8 : 8 ≤ N) (hm : (4 + body.length) % 8 = 0) (hN2 : N ≤ 65535) :
    tT (bytesN t 2 ++ bytesN N 2 ++ body ++ rest) = t ∧ tN (bytesN t 2 ++ bytesN N 2 ++ body ++ rest) = N ∧ tlE (bytesN t 2 ++ bytesN N 2 ++ body ++ rest) 8 8 514 = 0 ∧ bd (bytesN t 2 ++ bytesN N 2 ++ body ++ rest) = body := by
  have l2 : (bytesN t 2).length = 2 := by have := bytesN_len (n := t) (w := 2) (by decide); omega
  have l3 : (bytesN N 2).length = 2 := by have := bytesN_len (n := N) (w := 2) (by decide); omega
  have e1 : tT (bytesN t 2 ++ bytesN N 2 ++ body ++ rest) = t := by
    unfold tT; rw [List.append_assoc, List.append_assoc, List.take_left' l2]; exact num2 ht
  have e2 : tN (bytesN t 2 ++ bytesN N 2 ++ body ++ rest) = N := by
    unfold tN; rw [List.append_assoc, List.append_assoc, List.drop_left' l2, List.take_left' l3]; exact num2 (by omega)
  have hl : (bytesN t 2 ++ bytesN N 2 ++ body ++ rest).length = 4 + body.length + rest.length := by simp only [List.length_append]; omega
  refine ⟨e1, e2, ?_, ?_⟩
  · unfold tlE
    rw [e2, hl, if_neg (by omega), if_neg (by rw [Int.tmod_eq_emod_of_nonneg (by omega)]; omega), if_neg (by omega)]
  · unfold bd
    rw [e2, List.take_left' (by simp only [List.length_append]; omega)]
    exact List.drop_left' (by rw [List.length_append]; omega)
theorem ac_enc {t a b c f : Int} {h : Bool} {x : Int} {v m d rest : List Int} (hr : rightA (rightO c f h x v m) t a b c f h x v m d = true) (ha : 0 ≤ a ∧ a ≤ 18446744073709551615) (hb : 0 ≤ b ∧ b ≤ 18446744073709551615) (hx : 0 ≤ x) :
    (let y := encA t a b (encO c f h x v m) d ++ rest
     acE y = 0 ∧ tT y = t ∧ tN y = 4 + (bodyA t a b (encO c f h x v m) d).length ∧ acA y 0 = a ∧ acA y 1 = b ∧ acS y (decC (bd y)) = c ∧ acS y (decF (bd y)) = f ∧ acH y = h ∧ acS y (decX (bd y)) = x ∧ acV y (decV (bd y)) = v ∧ acV y (decM (bd y)) = m ∧ acD y = d) := by
  obtain ⟨_, s1, s2, s3⟩ := sizeA_len hr
  have htt : 0 ≤ t ∧ t ≤ 65535 := by
    by_cases h25 : t = 25
    · omega
    · exact type_le (.inl (rightA_row h25 hr).1)
  have hd : encA t a b (encO c f h x v m) d ++ rest = bytesN t 2 ++ bytesN (4 + (bodyA t a b (encO c f h x v m) d).length) 2 ++ bodyA t a b (encO c f h x v m) d ++ rest := rfl
  obtain ⟨e1, e2, e3, e4⟩ := head_law (rest := rest) htt rfl (by omega) s2 (by omega)
  dsimp only
  rw [hd]
  generalize bytesN t 2 ++ bytesN (4 + (bodyA t a b (encO c f h x v m) d).length) 2 ++ bodyA t a b (encO c f h x v m) d ++ rest = y at *
  by_cases h25 : t = 25
  · obtain ⟨rfl, rfl, rfl, rfl, rfl, k6, k7⟩ := rightA_25 h25 hr
    have hB : bodyA t 0 0 (encO 32768 f false x v m) [] = refB 32768 f false x v m ++ List.replicate ((8 - (4 + (encO 32768 f false x v m).length) % 8) % 8) 0 := by unfold bodyA; rw [if_pos h25, enc_law k7]
    obtain ⟨D1, D2, D3, D4, D5, D6, D7, D8⟩ := dec_enc (b := List.replicate ((8 - (4 + (encO 32768 f false x v m).length) % 8) % 8) (0 : Int)) k7 hx
    rw [← hB, ← e4] at D1 D2 D3 D4 D5 D6 D7 D8
    have hbl : (bd y).length = (refB 32768 f false x v m).length + (8 - (4 + (encO 32768 f false x v m).length) % 8) % 8 := by rw [e4, hB, List.length_append, List.length_replicate]
    have hdz : zeroL ((bd y).drop (decN (bd y)).toNat) = true := by
      rw [D8, e4, hB, Int.toNat_natCast, List.drop_left]; exact zeroL_rep _
    have hs : setE (bd y) = 0 := by
      unfold setE
      rw [if_pos D1, D2, D3, D4, if_neg (not_not_intro ⟨rfl, k6⟩), if_neg (by decide), if_neg (by rw [D8, hbl]; omega), if_pos hdz]
    have hE : acE y = 0 := by unfold acE; rw [if_neg (not_not_intro e3), e1, if_pos h25]; exact hs
    unfold acA acS acH acV acD acI
    rw [hE, e1, D2, D3, D4, D5, D6, D7]
    simp only [if_pos h25, if_true]
    exact ⟨trivial, trivial, e2, trivial, trivial, trivial, trivial, by simp, trivial, trivial, trivial, trivial⟩
  · obtain ⟨k1, k2, k3, k4, k5, k6, k7⟩ := rightA_row h25 hr
    obtain ⟨rfl, rfl, rfl, rfl, rfl, rfl⟩ := same_zero k2
    have hB : bodyA t a b (encO 0 0 false 0 [] []) d = putB (rowT t) (numsA t a b) ++ d := if_neg h25
    have hn64 : ∀ z ∈ numsA t a b, 0 ≤ z ∧ z ≤ 18446744073709551615 := fun z hz => by
      have := List.mem_of_mem_take hz
      simp only [List.mem_cons, List.not_mem_nil, or_false] at this
      rcases this with rfl | rfl <;> assumption
    obtain ⟨g1, g2⟩ := putF_getF d hn64 k4
    rw [← hB, ← e4] at g1
    have gL : getL (rowT t) (bd y) = numsA t a b := congrArg Prod.fst g1
    have gK : getK (rowT t) (bd y) = 0 := congrArg Prod.snd g1
    obtain ⟨n1, n2⟩ := nums_get k5 k6
    have hz := siz_le t
    have hbl : ((bd y).length : Int) = sizeW (rowT t) + d.length := by rw [e4, hB, List.length_append]; omega
    have hs : plE t (bd y) = 0 := by
      unfold plE
      rw [gK, gL, n1, if_neg (by
        rintro ⟨q1, q2⟩
        rcases k7 with ⟨q3, _⟩ | ⟨_, rfl⟩
        · exact q1 q3
        · simp only [List.length_nil] at hbl; omega), if_neg (by decide), if_neg (by decide)]
      exact k3
    have hE : acE y = 0 := by unfold acE; rw [if_neg (not_not_intro e3), e1, if_neg h25, if_pos k1]; exact hs
    have hdd : (bd y).drop (sizeW (rowT t)).toNat = d := by rw [e4, hB]; exact List.drop_left' (by omega)
    unfold acA acS acH acV acD acI
    rw [hE, e1, gL, n1, n2, hdd]
    simp only [if_neg h25, if_true]
    exact ⟨trivial, trivial, e2, trivial, trivial, trivial, trivial, by simp [h25], trivial, trivial, trivial, trivial⟩
/-- With a byte less it is not. -/
theorem ac_cut {t a b c f : Int} {h : Bool} {x : Int} {v m d : List Int} (hr : rightA (rightO c f h x v m) t a b c f h x v m d = true) : acE ((encA t a b (encO c f h x v m) d).take ((encA t a b (encO c f h x v m) d).length - 1)) = 514 := by
  obtain ⟨_, s1, s2, s3⟩ := sizeA_len hr
  have l2 : (bytesN t 2).length = 2 := by have := bytesN_len (n := t) (w := 2) (by decide); omega
  have l3 : (bytesN (4 + (bodyA t a b (encO c f h x v m) d).length) 2).length = 2 := by have := bytesN_len (n := (4 + (bodyA t a b (encO c f h x v m) d).length)) (w := 2) (by decide); omega
  have hl : (encA t a b (encO c f h x v m) d).length = 4 + (bodyA t a b (encO c f h x v m) d).length := by unfold encA; simp only [List.length_append]; omega
  have hN : tN ((encA t a b (encO c f h x v m) d).take ((encA t a b (encO c f h x v m) d).length - 1)) = 4 + (bodyA t a b (encO c f h x v m) d).length := by
    unfold tN
    have e : (((encA t a b (encO c f h x v m) d).take ((encA t a b (encO c f h x v m) d).length - 1)).drop 2).take 2 = ((encA t a b (encO c f h x v m) d).drop 2).take 2 := by
      rw [List.drop_take, List.take_take, Nat.min_eq_left (by omega)]
    rw [e]
    unfold encA
    rw [List.append_assoc, List.drop_left' l2, List.take_left' l3]; exact num2 (by omega)
  have hT : tlE ((encA t a b (encO c f h x v m) d).take ((encA t a b (encO c f h x v m) d).length - 1)) 8 8 514 = 514 := by
    unfold tlE
    rw [hN]
    have hl2 : ((encA t a b (encO c f h x v m) d).take ((encA t a b (encO c f h x v m) d).length - 1)).length = (encA t a b (encO c f h x v m) d).length - 1 := by rw [List.length_take]; omega
    rw [hl2, if_neg (by omega)]
    split
    · rfl
    · rw [if_pos (by omega)]
  unfold acE; rw [hT]; rfl
/-- What was decoded may be, and, encoded again, is those bytes. -/
theorem ac_dec {b : List Int} (hb : ∀ x ∈ b, 0 ≤ x ∧ x ≤ 255) (h0 : acE b = 0) :
    rightA (rightO (acS b (decC (bd b))) (acS b (decF (bd b))) (acH b) (acS b (decX (bd b))) (acV b (decV (bd b))) (acV b (decM (bd b)))) (tT b) (acA b 0) (acA b 1) (acS b (decC (bd b))) (acS b (decF (bd b))) (acH b) (acS b (decX (bd b))) (acV b (decV (bd b))) (acV b (decM (bd b))) (acD b) = true ∧
    encA (tT b) (acA b 0) (acA b 1) (encO (acS b (decC (bd b))) (acS b (decF (bd b))) (acH b) (acS b (decX (bd b))) (acV b (decV (bd b))) (acV b (decM (bd b)))) (acD b) = b.take (tN b).toNat ∧ 0 ≤ tN b ∧ tN b ≤ b.length := by
  have hT : tlE b 8 8 514 = 0 := Classical.byContradiction fun h => by
    unfold acE at h0; rw [if_pos h] at h0; exact h h0
  have hN0 : 0 ≤ tN b ∧ tN b ≤ 65535 := num2_le (a := 2) hb
  have hT0 : 0 ≤ tT b ∧ tT b ≤ 65535 := num2_le (a := 0) hb
  have hc : 4 ≤ b.length ∧ 8 ≤ tN b ∧ tN b % 8 = 0 ∧ tN b ≤ b.length := by
    unfold tlE at hT
    by_cases h1 : b.length < 4
    · rw [if_pos h1] at hT; cases hT
    · rw [if_neg h1] at hT
      by_cases h2 : tN b < 8 ∨ ¬ (tN b).tmod 8 = 0
      · rw [if_pos h2] at hT; cases hT
      · rw [if_neg h2] at hT
        by_cases h3 : (b.length : Int) < tN b
        · rw [if_pos h3] at hT; cases hT
        · rw [Int.tmod_eq_emod_of_nonneg hN0.1] at h2; omega
  obtain ⟨c1, c2, c3, c4⟩ := hc
  have hbl : (bd b).length = (tN b).toNat - 4 := by unfold bd; rw [List.length_drop, List.length_take]; omega
  have hbb : ∀ x ∈ bd b, 0 ≤ x ∧ x ≤ 255 := fun x hx => hb x (List.mem_of_mem_take (List.mem_of_mem_drop hx))
  have b1 : bytesN (tT b) 2 = b.take 2 := bytesN_numL 2 (b.take 2) (by decide) (by rw [List.length_take]; omega) fun x hx => hb x (List.mem_of_mem_take hx)
  have b2 : bytesN (tN b) 2 = (b.drop 2).take 2 := bytesN_numL 2 ((b.drop 2).take 2) (by decide) (by rw [List.length_take, List.length_drop]; omega) fun x hx => hb x (List.mem_of_mem_drop (List.mem_of_mem_take hx))
  have hsplit : b.take (tN b).toNat = b.take 2 ++ (b.drop 2).take 2 ++ bd b := by
    have e1 : b.take 4 = b.take 2 ++ (b.drop 2).take 2 := by rw [← List.take_add]
    rw [← e1]
    unfold bd
    have e2 : b.take 4 = (b.take (tN b).toNat).take 4 := by rw [List.take_take, Nat.min_eq_left (by omega)]
    rw [e2, List.take_append_drop]
  have key : ∀ {a' b' : Int} {E d : List Int}, bodyA (tT b) a' b' E d = bd b → encA (tT b) a' b' E d = b.take (tN b).toNat := fun {a' b' E d} hB => by
    unfold encA
    rw [hB, hbl, show (4 + (((tN b).toNat - 4 : Nat) : Int)) = tN b by omega, b1, b2, hsplit]
  have aI : ∀ x, acI b x = x := fun x => if_pos h0
  by_cases h25 : tT b = 25
  · have hs : setE (bd b) = 0 := by have := h0; unfold acE at this; rw [if_neg (not_not_intro hT), if_pos h25] at this; exact this
    have D0 : decE (bd b) = 0 := Classical.byContradiction fun h => by
      unfold setE at hs; rw [if_neg h] at hs
      split at hs
      · cases hs
      · split at hs <;> cases hs
    unfold setE at hs
    rw [if_pos D0] at hs
    have q1 : decC (bd b) = 32768 ∧ settF (decF (bd b)) = true := Classical.byContradiction fun h => by rw [if_pos h] at hs; cases hs
    rw [if_neg (not_not_intro q1)] at hs
    have q2 : decH (bd b) = false := by
      cases hh : decH (bd b) with
      | false => rfl
      | true => rw [if_pos hh] at hs; cases hs
    rw [if_neg (by rw [q2]; decide)] at hs
    have q3 : ¬ decN (bd b) + 8 ≤ (bd b).length := fun h => by rw [if_pos h] at hs; cases hs
    rw [if_neg q3] at hs
    have q4 : zeroL ((bd b).drop (decN (bd b)).toNat) = true := Classical.byContradiction fun h => by rw [if_neg h] at hs; cases hs
    obtain ⟨E1, E2, E3, E4⟩ := enc_dec hbb D0
    have aS : ∀ x, acS b x = x := fun x => by unfold acS; rw [aI, if_pos h25]
    have aV : ∀ l, acV b l = l := fun l => by unfold acV; rw [if_pos h0, if_pos h25]
    have aA : ∀ k, acA b k = 0 := fun k => by unfold acA; rw [aI, if_pos h25]
    have aH : acH b = decH (bd b) := by unfold acH; rw [decide_eq_true h0, decide_eq_true h25]; rfl
    have aD : acD b = [] := by unfold acD; rw [if_pos h0, if_pos h25]
    simp only [aS, aV, aA, aH, aD]
    refine ⟨?_, key ?_, hN0.1, c4⟩
    · unfold rightA; rw [if_pos h25, E1, q1.1, q1.2, q2]; rfl
    · unfold bodyA; rw [if_pos h25, enc_law E1, E2]
      have hd := zeroL_eq q4
      rw [List.length_drop] at hd
      have hk : (8 - (4 + ((bd b).take (decN (bd b)).toNat).length) % 8) % 8 = (bd b).length - (decN (bd b)).toNat := by rw [List.length_take]; omega
      rw [hk, ← hd, List.take_append_drop]
  · have hK : rowK (tT b) = true := Classical.byContradiction fun h => by
      have := h0; unfold acE at this; rw [if_neg (not_not_intro hT), if_neg h25, if_neg h] at this; cases this
    have hs : plE (tT b) (bd b) = 0 := by have := h0; unfold acE at this; rw [if_neg (not_not_intro hT), if_neg h25, if_pos hK] at this; exact this
    unfold plE at hs
    have q1 : ¬ (¬ tT b = 65535 ∧ ¬ ((bd b).length : Int) = sizeW (rowT (tT b))) := fun h => by rw [if_pos h] at hs; cases hs
    rw [if_neg q1] at hs
    have q2 : ¬ getK (rowT (tT b)) (bd b) = 1 := fun h => by rw [if_pos h] at hs; cases hs
    rw [if_neg q2] at hs
    have q3 : ¬ getK (rowT (tT b)) (bd b) = 2 := fun h => by rw [if_pos h] at hs; cases hs
    rw [if_neg q3] at hs
    have hF : getF (rowT (tT b)) (bd b) = (getL (rowT (tT b)) (bd b), 0) := by
      have h := getK_of (rowT (tT b)) (bd b)
      exact Prod.ext rfl (show getK (rowT (tT b)) (bd b) = 0 by omega)
    obtain ⟨p1, p2, p3⟩ := getF_putF hbb hF
    have hcl : ((getL (rowT (tT b)) (bd b)).length : Int) = countW (rowT (tT b)) := by
      unfold putK at p1
      obtain ⟨r, hr⟩ := Option.isSome_iff_exists.1 p1
      unfold putF at hr
      split at hr
      · rename_i h; exact h.2.symm
      · cases hr
    obtain ⟨n1, n2, n3⟩ := nums_of hcl
    have hz := siz_le (tT b)
    have aS : ∀ x, acS b x = 0 := fun x => by unfold acS; rw [aI, if_neg h25]
    have aV : ∀ l, acV b l = [] := fun l => by unfold acV; rw [if_pos h0, if_neg h25]
    have aA : ∀ k, acA b k = (getL (rowT (tT b)) (bd b)).getD k 0 := fun k => by unfold acA; rw [aI, if_neg h25]
    have aH : acH b = false := by unfold acH; rw [decide_eq_false h25]; simp
    have aD : acD b = (bd b).drop (sizeW (rowT (tT b))).toNat := by unfold acD; rw [if_pos h0, if_neg h25]
    simp only [aS, aV, aA, aH, aD]
    have hdl : ((bd b).drop (sizeW (rowT (tT b))).toNat).length = (bd b).length - (sizeW (rowT (tT b))).toNat := List.length_drop
    refine ⟨?_, key ?_, hN0.1, c4⟩
    · unfold rightA
      rw [if_neg h25, hK, n1, p1, hs]
      have hself : sameO 0 0 false 0 [] [] 0 0 false 0 [] [] = true := same_self _ _ _ _ _ _
      rw [hself]
      have d2 : (decide (2 ≤ countW (rowT (tT b))) || decide ((getL (rowT (tT b)) (bd b)).getD 1 0 = 0)) = true := by simpa using n2
      have d1 : (decide (1 ≤ countW (rowT (tT b))) || decide ((getL (rowT (tT b)) (bd b)).getD 0 0 = 0)) = true := by simpa using n3
      rw [d1, d2]
      by_cases hx : tT b = 65535
      · have h4 : sizeW (rowT (tT b)) = 4 := by rw [hx]; decide
        have d8 : decide ((((bd b).length - (4 : Int).toNat : Nat) : Int).tmod 8 = 0) = true := decide_eq_true (by rw [Int.tmod_eq_emod_of_nonneg (by omega)]; omega)
        have d9 : decide ((((bd b).length - (4 : Int).toNat : Nat) : Int) ≤ 65520) = true := decide_eq_true (by omega)
        rw [if_pos hx, hdl, h4, d8, d9]; rfl
      · have d10 : decide ((bd b).length - (sizeW (rowT (tT b))).toNat = 0) = true := decide_eq_true (by omega)
        rw [if_neg hx, hdl, d10]; rfl
    · unfold bodyA; rw [if_neg h25, n1, p2, List.take_append_drop]
end Go.Eng
