/- Parts of the proof: W7, F2, F4, O2, O9, O5, O7, OA, OE, OI, M1, OG, N1, M2, A1, A2, M3, A3, A4, A6, A7, A8. No condition. -/
import Derived.Test.YtcgkajpmcbnmkaaGreatDoorProg
import Derived.Test.YtcgkajpmcbnmkaaGreatDoorWA10
import Derived.KernelRfl
import Derived.Test.YtcgkajpmcbnmkaaGreatDoorWA13
import Derived.Test.YtcgkajpmcbnmkaaGreatDoorWA14
import Derived.Test.YtcgkajpmcbnmkaaGreatDoorWA12
namespace Go.Eng
open Go.Proofs
set_option linter.unusedVariables false
set_option linter.unusedSimpArgs false
set_option maxRecDepth 100000
set_option maxHeartbeats 1000000
theorem idx0_at : ∀ (l : List Int) (i : Int), 0 ≤ i → 0 ≤ idxA 0 l i → i ≤ idxA 0 l i ∧ l.getD (idxA 0 l i - i).toNat 0 = 0 := by
  intro l
  induction l with
  | nil => intro i _ h; exact absurd h (by unfold idxA; decide)
  | cons a l ih =>
    intro i h1 h2
    unfold idxA at h2 ⊢
    split
    · rename_i ha; rw [Int.sub_self]; exact ⟨Int.le_refl _, ha⟩
    · rename_i ha
      rw [if_neg ha] at h2
      obtain ⟨h3, h4⟩ := ih (i + 1) (by omega) h2
      refine ⟨by omega, ?_⟩
      have : (idxA 0 l (i + 1) - i).toNat = (idxA 0 l (i + 1) - (i + 1)).toNat + 1 := by omega
      rw [this, List.getD_cons_succ]; exact h4
theorem rx_eq {n : Int} {s : List Int} (h : (s.length : Int) = n) : tkOk n s = rxO s ∧ ctB s 0 = s.take (zi s) := by
  have hle := idxA_le (c := 0) s 0 (Int.le_refl _)
  by_cases hi : 0 ≤ idxA 0 s 0
  · have hz : zi s = (idxA 0 s 0).toNat := if_pos hi
    have hlt : zi s < s.length := by omega
    have h0 : s.getD (zi s) 0 = 0 := by
      have := (idx0_at s 0 (Int.le_refl _) hi).2
      rwa [Int.sub_zero, ← hz] at this
    have hB : ctB s 0 = s.take (zi s) := by unfold ctB; rw [if_pos hi, hz]
    have hR : ctR s 0 = s.drop (zi s + 1) := by unfold ctR; rw [if_pos hi, hz]; congr 1; omega
    have hd : zeroL (s.drop (zi s)) = zeroL (s.drop (zi s + 1)) := by
      rw [drop_step hlt 0, h0]; unfold zeroL; rw [List.all_cons]; rfl
    have hK : ctK s 0 = true := decide_eq_true hi
    refine ⟨?_, hB⟩
    have tz := trim_zero (ctR s 0)
    unfold tkOk rxO
    rw [hK, hd, ← hR, hB, h, Bool.true_and, Bool.and_comm]
    congr 1
    rw [Bool.eq_iff_iff, decide_eq_true_eq]
    rw [← tz, decide_eq_true_eq]
    exact List.length_eq_zero_iff.symm
  · have hz : zi s = s.length := by unfold zi; rw [if_neg hi]
    have hK : ctK s 0 = false := decide_eq_false hi
    have hB : ctB s 0 = s.take (zi s) := by unfold ctB; rw [if_neg hi, hz, List.take_length]
    refine ⟨?_, hB⟩
    unfold tkOk rxO txF
    rw [hK, hz, List.take_length, decide_eq_false (Int.lt_irrefl _)]; simp
theorem tk_bad {b : List Int} {sh : Int} : ∀ (l : List Int) (s : TS), s.2.2 ≠ 0 → (l.foldl (tkS b sh) s).2.2 = s.2.2
  | [], s, h => rfl
  | n :: r, s, h => by
    have e1 : takeE n b s.2.1 sh s.2.2 = s.2.2 := by
      unfold takeE; split
      · unfold failE; rw [if_neg h]
      · split
        · unfold failE; rw [if_neg h]
        · rfl
    have e2 : (tkS b sh s n).2.2 = s.2.2 := by
      unfold tkS; rw [e1]; dsimp only; split
      · rfl
      · unfold failE; rw [if_neg h]
    rw [List.foldl_cons, tk_bad r _ (by rw [e2]; exact h), e2]
theorem tk_run {b : List Int} {sh : Int} : ∀ (l : List Int) (o : List (List Int)) (q : Nat), (∀ n ∈ l, 0 ≤ n) → (q : Int) + l.sum ≤ b.length →
    (∀ r, rxF l o (b.drop q) = some r → l.foldl (tkS b sh) (o, (q : Int), 0) = (r, (q : Int) + l.sum, 0)) ∧ (rxF l o (b.drop q) = none → (l.foldl (tkS b sh) (o, (q : Int), 0)).2.2 = 269)
  | [], o, q, _, _ => ⟨fun r h => (by cases h; simp), fun h => (by cases h)⟩
  | n :: r, o, q, hn, hs => by
    have hn0 : 0 ≤ n := hn n (List.mem_cons_self ..)
    have hr : ∀ x ∈ r, 0 ≤ x := fun x hx => hn x (List.mem_cons_of_mem _ hx)
    have hrs : 0 ≤ r.sum := by
      clear hs hn
      induction r with
      | nil => simp
      | cons a r ih => rw [List.sum_cons]; have := ih (fun x hx => hr x (List.mem_cons_of_mem _ hx)); have := hr a (List.mem_cons_self ..); omega
    rw [List.sum_cons] at hs
    have e1 : takeE n b (q : Int) sh 0 = 0 := by unfold takeE; rw [if_neg (by omega), if_neg (by omega)]
    have e2 : takeL n b (q : Int) sh 0 = (b.drop q).take n.toNat := by
      unfold takeL; rw [if_pos e1]; exact slice_eq b q hn0
    have e3 : takeP n b (q : Int) sh 0 = (q : Int) + n := by unfold takeP; rw [if_pos e1]
    have hlen : (((b.drop q).take n.toNat).length : Int) = n := by rw [List.length_take, List.length_drop]; omega
    obtain ⟨k1, k2⟩ := rx_eq hlen
    have hd : (b.drop q).drop n.toNat = b.drop (q + n.toNat) := by rw [List.drop_drop]
    have hq : ((q + n.toNat : Nat) : Int) = (q : Int) + n := by omega
    cases hO : rxO ((b.drop q).take n.toNat) with
    | true =>
      have e4 : tkS b sh (o, (q : Int), 0) n = (o ++ [((b.drop q).take n.toNat).take (zi ((b.drop q).take n.toNat))], ((q + n.toNat : Nat) : Int), 0) := by
        unfold tkS; dsimp only; rw [e1, e2, e3, k1, hO, if_pos rfl, k2, hq]
      have ih := tk_run (b := b) (sh := sh) r (o ++ [((b.drop q).take n.toNat).take (zi ((b.drop q).take n.toNat))]) (q + n.toNat) hr (by omega)
      unfold rxF
      rw [hO, if_pos rfl, hd, List.foldl_cons, e4, List.sum_cons, show (q : Int) + (n + r.sum) = ((q + n.toNat : Nat) : Int) + r.sum by omega]
      exact ih
    | false =>
      have e4 : (tkS b sh (o, (q : Int), 0) n).2.2 = 269 := by
        unfold tkS; dsimp only; rw [e1, e2, k1, hO, if_neg (by decide)]; rfl
      unfold rxF
      rw [hO, if_neg (by decide)]
      refine ⟨fun r h => (by cases h), fun _ => ?_⟩
      rw [List.foldl_cons, tk_bad r _ (by rw [e4]; decide), e4]
end Go.Eng
namespace Go.Eng
open Go.Proofs
set_option linter.unusedVariables false
set_option linter.unusedSimpArgs false
set_option maxRecDepth 100000
set_option maxHeartbeats 1000000
def fIs (n : Int) : Bool := decide (0 ≤ n) && decide (n < 40)
def bitsL : List Int := [32, 32, 64, 48, 48, 16, 13, 3, 6, 2, 8, 32, 32, 16, 16, 16, 16, 16, 16, 8, 8, 16, 32, 32, 48, 48, 128, 128, 20, 8, 8, 128, 48, 48, 20, 3, 1, 24, 64, 9]
def sizeF (n : Int) : Int := if n = 28 ∨ n = 34 then 4 else (bitsL.getD n.toNat 0 + 7) / 8
def maskedF (n : Int) : Bool := [2, 3, 4, 6, 11, 12, 37, 38, 39, 22, 23, 24, 25, 26, 27, 28].contains n
def deepF (n : Int) : Int × List Int :=
  if n = 13 ∨ n = 14 then (10, [6]) else if n = 15 ∨ n = 16 then (10, [17]) else if n = 17 ∨ n = 18 then (10, [132]) else if n = 19 ∨ n = 20 then (10, [1])
  else if n = 29 ∨ n = 30 then (10, [58]) else if n = 31 then (29, [135, 136]) else if n = 32 then (29, [135]) else if n = 33 then (29, [136]) else (-1, [])
def needF (n : Int) : Int × List Int :=
  if n = 1 then (0, []) else if n = 7 then (6, []) else if n = 8 ∨ n = 9 ∨ n = 10 then (5, [2048, 34525]) else if n = 11 ∨ n = 12 then (5, [2048])
  else if n = 21 ∨ n = 22 ∨ n = 23 ∨ n = 24 ∨ n = 25 then (5, [2054]) else if n = 26 ∨ n = 27 ∨ n = 28 ∨ n = 39 then (5, [34525])
  else if n = 34 ∨ n = 35 ∨ n = 36 then (5, [34887, 34888]) else if n = 37 then (5, [35047]) else deepF n
def namesL : List (List Int) := [[105, 110, 95, 112, 111, 114, 116], [105, 110, 95, 112, 104, 121, 95, 112, 111, 114, 116], [109, 101, 116, 97, 100, 97, 116, 97], [101, 116, 104, 95, 100, 115, 116], [101, 116, 104, 95, 115, 114, 99], [101, 116, 104, 95, 116, 121, 112, 101], [118, 108, 97, 110, 95, 118, 105, 100], [118, 108, 97, 110, 95, 112, 99, 112], [105, 112, 95, 100, 115, 99, 112], [105, 112, 95, 101, 99, 110], [105, 112, 95, 112, 114, 111, 116, 111], [105, 112, 118, 52, 95, 115, 114, 99], [105, 112, 118, 52, 95, 100, 115, 116], [116, 99, 112, 95, 115, 114, 99], [116, 99, 112, 95, 100, 115, 116], [117, 100, 112, 95, 115, 114, 99], [117, 100, 112, 95, 100, 115, 116], [115, 99, 116, 112, 95, 115, 114, 99], [115, 99, 116, 112, 95, 100, 115, 116], [105, 99, 109, 112, 118, 52, 95, 116, 121, 112, 101], [105, 99, 109, 112, 118, 52, 95, 99, 111, 100, 101], [97, 114, 112, 95, 111, 112], [97, 114, 112, 95, 115, 112, 97], [97, 114, 112, 95, 116, 112, 97], [97, 114, 112, 95, 115, 104, 97], [97, 114, 112, 95, 116, 104, 97], [105, 112, 118, 54, 95, 115, 114, 99], [105, 112, 118, 54, 95, 100, 115, 116], [105, 112, 118, 54, 95, 102, 108, 97, 98, 101, 108], [105, 99, 109, 112, 118, 54, 95, 116, 121, 112, 101], [105, 99, 109, 112, 118, 54, 95, 99, 111, 100, 101], [105, 112, 118, 54, 95, 110, 100, 95, 116, 97, 114, 103, 101, 116], [105, 112, 118, 54, 95, 110, 100, 95, 115, 108, 108], [105, 112, 118, 54, 95, 110, 100, 95, 116, 108, 108], [109, 112, 108, 115, 95, 108, 97, 98, 101, 108], [109, 112, 108, 115, 95, 116, 99], [109, 112, 108, 115, 95, 98, 111, 115], [112, 98, 98, 95, 105, 115, 105, 100], [116, 117, 110, 110, 101, 108, 95, 105, 100], [105, 112, 118, 54, 95, 101, 120, 116, 104, 100, 114]]
def fBits (n : Int) : Int := if fIs n then bitsL.getD n.toNat 0 else 0
def fSize (n : Int) : Int := if fIs n then sizeF n else 0
def fMask (n : Int) : Bool := if fIs n then maskedF n else false
def fNeed (n : Int) : Int := if fIs n then (needF n).1 else 0
def fVals (n : Int) : List Int := if fIs n then (needF n).2 else []
def idxF : List (List Int) → List Int → Nat → Int
  | [], _, _ => -1
  | a :: r, s, k => if s = a then k else idxF r s (k + 1)
def findN (s : List Int) : Int := if 0 > idxF namesL s 0 then 0 else idxF namesL s 0
def findB (s : List Int) : Bool := decide (0 ≤ idxF namesL s 0)
def spareF (s : Int) : List Int → Bool
  | [] => true
  | b :: r => if b.fdiv (2 ^ (min (8 - (if 8 < s then 8 else s)).toNat 8)) = 0 then spareF (s - (if 8 < s then 8 else s)) r else false
def fitsF (n : Int) (v : List Int) : Bool := if (0 ≤ n ∧ n < 40) ∧ (v.length : Int) = sizeF n then spareF (8 * sizeF n - bitsL.getD n.toNat 0) v else false
end Go.Eng
namespace Go.Eng
open Go.Proofs
set_option linter.unusedVariables false
set_option linter.unusedSimpArgs false
set_option maxRecDepth 100000
set_option maxHeartbeats 1000000
def refL (v : List Int) (z : Int) : Nat → Int → Bool
  | 0, _ => true
  | f + 1, i => if bitop .and .u8 ((v.getD (z - 1 - i.tdiv 8).toNat 0).fdiv (2 ^ (min (i.tmod 8).toNat 8))) 1 = 1 then false else refL v z f (i + 1)
theorem refL_t {v : List Int} {z i : Int} {f : Nat} (h : bitop .and .u8 ((v.getD (z - 1 - i.tdiv 8).toNat 0).fdiv (2 ^ (min (i.tmod 8).toNat 8))) 1 = 1) : refL v z (f + 1) i = false := if_pos h
theorem refL_f {v : List Int} {z i : Int} {f : Nat} (h : ¬ bitop .and .u8 ((v.getD (z - 1 - i.tdiv 8).toNat 0).fdiv (2 ^ (min (i.tmod 8).toNat 8))) 1 = 1) : refL v z (f + 1) i = refL v z f (i + 1) := if_neg h
def needsF (n : Int) : List Int := if 0 ≤ n ∧ n < 40 then (if (needF n).1 = -1 then [] else if (needF (needF n).1).1 = -1 then [(needF n).1] else if (needF (needF (needF n).1).1).1 = -1 then [(needF (needF n).1).1, (needF n).1] else [(needF (needF (needF n).1).1).1, (needF (needF n).1).1, (needF n).1]) else []
theorem c1 : needsF 31 = [5, 10, 29] := by decide
theorem c2 : findN [105, 112, 118, 54, 95, 110, 100, 95, 116, 108, 108] = 33 ∧ findB [105, 112, 118, 54, 95, 110, 100, 95, 116, 108, 108] = true := by
  have h : idxF namesL [105, 112, 118, 54, 95, 110, 100, 95, 116, 108, 108] 0 = 33 := by decide +kernel
  unfold findN findB; rw [h]; exact ⟨rfl, rfl⟩
theorem c3 : fIs 33 = true ∧ fNeed 33 = 29 ∧ fVals 33 = [136] := by decide
theorem c4 : fitsF 7 [8] = false := by decide
theorem c5 : fitsF 7 [7] = true := by decide
theorem spare0 : ∀ v : List Int, (∀ b ∈ v, 0 ≤ b ∧ b ≤ 255) → spareF 0 v = true
  | [], _ => rfl
  | b :: r, h => by
    unfold spareF
    have hb := h b (by simp)
    rw [if_pos (by show b.fdiv (2 ^ 8) = 0; rw [Int.fdiv_eq_ediv_of_nonneg _ (by decide)]; omega)]
    exact spare0 r fun x hx => h x (by simp [hx])
theorem refL_add (v : List Int) (z : Int) : ∀ (f g : Nat) (i : Int), refL v z (f + g) i = (refL v z f i && refL v z g (i + f))
  | 0, g, i => by simp [refL]
  | f + 1, g, i => by
    rw [show f + 1 + g = (f + g) + 1 by omega]
    by_cases h : bitop .and .u8 ((v.getD (z - 1 - i.tdiv 8).toNat 0).fdiv (2 ^ (min (i.tmod 8).toNat 8))) 1 = 1
    · rw [refL_t h, refL_t h]; rfl
    · rw [refL_f h, refL_f h, refL_add v z f g (i + 1), show i + 1 + (f : Int) = i + ((f + 1 : Nat) : Int) by omega]
theorem top_all : ∀ s ≤ 8, ∀ b < 256, spareF (s : Nat) [((b : Nat) : Int)] = refL [((b : Nat) : Int)] 1 s ((8 : Int) - (s : Nat)) := by decide +kernel
theorem top_one {s : Nat} {b : Int} (hs : s ≤ 8) (h : 0 ≤ b ∧ b ≤ 255) : spareF s [b] = refL [b] 1 s (8 - s) := by
  have := top_all s hs b.toNat (by omega)
  rw [Int.toNat_of_nonneg h.1] at this; exact this
theorem spare_cut {s : Int} {b : Int} {r : List Int} (h : s ≤ 8) (hr : ∀ x ∈ r, 0 ≤ x ∧ x ≤ 255) : spareF s (b :: r) = spareF s [b] := by
  unfold spareF
  rw [if_neg (by omega : ¬ 8 < s), Int.sub_self, spare0 r hr]
  rfl
theorem two {b0 b1 b2 b3 : Int} {v : List Int} (e : v = [b0, b1, b2, b3]) (hv : ∀ b ∈ v, 0 ≤ b ∧ b ≤ 255) : spareF 12 v = refL v 4 12 20 := by
  subst e
  have h0 := top_one (s := 8) (Nat.le_refl _) (hv b0 (by simp))
  have h1 := top_one (s := 4) (by omega) (hv b1 (by simp))
  have hr := refL_add [b0, b1, b2, b3] 4 4 8 20
  have e1 : refL [b0, b1, b2, b3] 4 4 20 = refL [b1] 1 4 (8 - (4 : Nat)) := rfl
  have e2 : refL [b0, b1, b2, b3] 4 8 (20 + (4 : Nat)) = refL [b0] 1 8 (8 - (8 : Nat)) := rfl
  have hc : spareF 4 (b1 :: [b2, b3]) = spareF 4 [b1] := spare_cut (by omega) fun x hx => hv x (by simp at hx ⊢; omega)
  rw [show (12 : Nat) = 4 + 8 from rfl, hr, e1, e2, ← h0, ← h1]
  show (if b0.fdiv (2 ^ (min (8 - (8 : Int)).toNat 8)) = 0 then spareF 4 [b1, b2, b3] else false) = (spareF 4 [b1] && (if b0.fdiv (2 ^ (min (8 - (8 : Int)).toNat 8)) = 0 then true else false))
  rw [hc]
  split <;> simp
end Go.Eng
namespace Go.Eng
open Go.Proofs
set_option linter.unusedVariables false
set_option linter.unusedSimpArgs false
set_option maxRecDepth 100000
set_option maxHeartbeats 1000000
structure Ox where
  c : Int
  f : Int
  has : Bool
  x : Int
  v : List Int
  m : List Int
def ownA (s : Int) : Int := if 0 < s then (255 : Int).fdiv (2 ^ (min (if 8 < s then 8 else s).toNat 8)) else 255
def onesA : List Int → Int → Bool
  | [], _ => true
  | x :: r, s => if x = ownA s then onesA r (s - 8) else false
def onesF (b : List Int) (bits : Int) : Bool := onesA b (b.length * 8 - bits)
def outA : List Int → List Int → Bool
  | x :: r, y :: l => if bitop .andNot .u8 x y = 0 then outA r l else true
  | _, _ => false
def ofOk (c f : Int) : Bool := if c = 65535 then decide (0 ≤ f) && decide (f ≤ 127) else fIs f && decide (c = 32768)
def ofSize (c f : Int) : Int := if c = 65535 then 100 else fSize f
def ofBits (c f : Int) : Int := if c = 65535 then 0 else fBits f
def ofMask (c f : Int) : Bool := if c = 65535 then true else fMask f
def ofExtra (c : Int) : Bool := decide (c = 65535)
def wrongF (f : Int) (h : Bool) (v m : List Int) (bits : Int) (ex : Bool) : Int :=
  if ex = false ∧ fitsF f v = false then 1032 else if h = true ∧ ex = false ∧ fitsF f m = false then 1033
  else if h = true ∧ (zeroL m = true ∨ onesF m (if ex = true then m.length * 8 else bits) = true) then 1033 else if h = true ∧ outA v m = true then 1030 else 0
def restO (c : Int) (v m : List Int) : Int := if c = 65535 then (v.length : Int) + m.length + 4 else (v.length : Int) + m.length
def rightO (c f : Int) (h : Bool) (x : Int) (v m : List Int) : Bool :=
  ofOk c f && (!h || ofMask c f) && (ofExtra c || decide (x = 0)) && decide (x.fdiv (2 ^ (min (Int.toNat 32) IntKind.u64.bits)) = 0) &&
    (match h with | true => decide ((m.length : Int) = v.length) | false => decide (m.length = 0)) && decide ((v.length : Int) ≤ ofSize c f) && decide (wrongF f h v m (ofBits c f) (ofExtra c) = 0)
end Go.Eng
namespace Go.Eng
open Go.Proofs
set_option linter.unusedVariables false
set_option linter.unusedSimpArgs false
set_option maxRecDepth 100000
set_option maxHeartbeats 1000000
end Go.Eng
namespace Go.Eng
open Go.Proofs
set_option linter.unusedVariables false
set_option linter.unusedSimpArgs false
set_option maxRecDepth 100000
set_option maxHeartbeats 1000000
def headO (c f : Int) (h : Bool) (v m : List Int) : List Int := bytesN c 2 ++ bytesN (2 * f + if h = true then 1 else 0) 1 ++ bytesN (restO c v m) 1
def encO (c f : Int) (h : Bool) (x : Int) (v m : List Int) : List Int := headO c f h v m ++ (if c = 65535 then bytesN x 4 else []) ++ v ++ m
theorem bufB_ok {x l : List Int} {room : Int} (h : (x.length : Int) ≤ room - l.length) : bufB x l room 0 = l ++ x ∧ bufE x l room 0 = 0 := by
  unfold bufB bufE bufOk; rw [decide_eq_true h]; simp; omega
def longS (h ex : Bool) (sz n : Int) : Int := if ex = true then (n - 4).tdiv (if h = true then 2 else 1) else sz
def longK (h ex : Bool) (sz n : Int) : Bool := if ex = true then decide (0 ≤ n - 4) && decide ((n - 4).tmod (if h = true then 2 else 1) = 0) && decide ((n - 4).tdiv (if h = true then 2 else 1) ≤ sz) else decide (n = (if h = true then 2 else 1) * sz)
end Go.Eng
namespace Go.Eng
open Go.Proofs
set_option linter.unusedVariables false
set_option linter.unusedSimpArgs false
set_option maxRecDepth 100000
set_option maxHeartbeats 1000000
def decC (b : List Int) : Int := numL (b.take 2)
def decF (b : List Int) : Int := (b.getD 2 0).tdiv 2
def decH (b : List Int) : Bool := decide ((b.getD 2 0).tmod 2 = 1)
def decX (b : List Int) : Int := if decC b = 65535 then numL ((b.drop 4).take 4) else 0
def decA (b : List Int) : Int := if decC b = 65535 then 8 else 4
def decS (b : List Int) : Int := longS (decH b) (ofExtra (decC b)) (ofSize (decC b) (decF b)) (b.getD 3 0)
def decK (b : List Int) : Bool := longK (decH b) (ofExtra (decC b)) (ofSize (decC b) (decF b)) (b.getD 3 0)
def decV (b : List Int) : List Int := (b.take (decA b + decS b).toNat).drop (decA b).toNat
def decM (b : List Int) : List Int := if decH b = true then (b.take (decA b + decS b + decS b).toNat).drop (decA b + decS b).toNat else []
def decN (b : List Int) : Int := decA b + decS b + if decH b = true then decS b else 0
def decE (b : List Int) : Int := if b.length < 4 then 1026 else if ofOk (decC b) (decF b) = false then 1031 else if decH b = true ∧ ofMask (decC b) (decF b) = false then 1033 else if decK b = false ∨ (b.length : Int) - 4 < b.getD 3 0 then 1026 else wrongF (decF b) (decH b) (decV b) (decM b) (ofBits (decC b) (decF b)) (ofExtra (decC b))
def decI (b : List Int) (x : Int) : Int := if decE b = 0 then x else 0
def decR (b : List Int) (l : List Int) : List Int := if decE b = 0 then l else []
end Go.Eng
namespace Go.Eng
open Go.Proofs
set_option linter.unusedVariables false
set_option linter.unusedSimpArgs false
set_option maxRecDepth 100000
set_option maxHeartbeats 1000000
def ir_r08_Alike : IR :=
(.seq
(.keep [0, 1]
(.reg [oD 2 (.boxv (.t 0)),
oD 3 (.boxv (.t 1)),
oD 4 (.mov cF)]))
(.seq
(.keep [2, 3]
(.reg [oA 5 0 2,
oL 6 5,
oA 7 0 3,
oL 8 7,
oB 9 .eql (.t 6) (.t 8),
oM 10 9,
oT 10 11 (.fieldAddr 1 (.t 2)),
oT 10 12 (.load none (.t 11)),
oT 10 13 (.fieldAddr 1 (.t 3)),
oT 10 14 (.load none (.t 13)),
oT 10 15 (.bin .eql (.t 12) (.t 14)),
oP 16 10 (.t 15) cF,
oM 17 16,
oT 17 18 (.fieldAddr 3 (.t 2)),
oT 17 19 (.load none (.t 18)),
oT 17 20 (.fieldAddr 3 (.t 3)),
oT 17 21 (.load none (.t 20)),
oT 17 22 (.bin .eql (.t 19) (.t 21)),
oP 23 17 (.t 22) cF,
oM 4 23]))
.ret))
def rd_r08_Alike : List RD := [.tmp 4 true none]
theorem ok_r08_Alike : fnOk Tryz.prog Tryz.f137 ir_r08_Alike rd_r08_Alike = true := by kernel_rfl
def S_r08_Alike : List AV → List Obj → Option (Prop × AV)
  | [.agg [.int .i64 c, .int .i64 f, .bool h, .int .u64 x, .imm (.int .u8) v, .imm (.int .u8) m], .agg [.int .i64 c', .int .i64 f', .bool h', .int .u64 x', .imm (.int .u8) v', .imm (.int .u8) m']], [] => some ((True, .bool (decide (c = c') && decide (f = f') && decide (x = x'))))
  | _, _ => none
theorem snd_r08_Alike : SoundS Tryz.prog 137 (RoF S_r08_Alike).sum := by
  refine ro_fn Tryz.func137 ok_r08_Alike (env_nil _) fun args objs p v e => ?_
  unfold S_r08_Alike at e
  split at e
  · rename_i c f h x v m c' f' h' x' v' m'
    cases e
    refine ⟨rfl, fun hw ho hp => ?_⟩
    change List Int at v
    change List Int at m
    change List Int at v'
    change List Int at m'
    repeat' (intro t ht; first | (cases t <;> first | (cases ht; done) | ((try simp only [bn_s] at ht); (try simp only [nd_s] at ht))) | (refine castG_go ht ?_; clear ht) | (refine ht ?_ ?_ <;> clear ht) | (refine ht.1 ?_ ?_ <;> clear ht) | (refine ht ?_; clear ht))
    all_goals first
      | exact True.intro
      | (simp_all; done)
      | trace_state
  · cases e
def sameO (c f : Int) (h : Bool) (x : Int) (v m : List Int) (c' f' : Int) (h' : Bool) (x' : Int) (v' m' : List Int) : Bool := decide (c = c') && decide (f = f') && decide (x = x') && (h == h') && decide (v = v') && decide (m = m')
theorem same_self (c f : Int) (h : Bool) (x : Int) (v m : List Int) : sameO c f h x v m c f h x v m = true := by unfold sameO; simp
def ir_r08_Same : IR :=
(.seq
(.keep [0, 1]
(.reg [oD 2 (.boxv (.t 0)),
oD 3 (.boxv (.t 1)),
oD 4 (.mov cF)]))
(.seq
(.keep [2, 3]
(.reg [oK 5 6 2,
oK 6 6 3,
oC 7 137 [.t 5, .t 6],
oM 8 7,
oT 8 9 (.fieldAddr 2 (.t 2)),
oT 8 10 (.load none (.t 9)),
oT 8 11 (.fieldAddr 2 (.t 3)),
oT 8 12 (.load none (.t 11)),
oT 8 13 (.eqb false (.t 10) (.t 12)),
oP 14 8 (.t 13) cF,
oM 15 14,
oT 15 16 (.fieldAddr 4 (.t 2)),
oT 15 17 (.load none (.t 16)),
oT 15 18 (.fieldAddr 4 (.t 3)),
oT 15 19 (.load none (.t 18)),
oT 15 20 (.call false (.f 12) [(.t 17), (.t 19)]),
oP 21 15 (.t 20) cF,
oM 22 21,
oT 22 23 (.fieldAddr 5 (.t 2)),
oT 22 24 (.load none (.t 23)),
oT 22 25 (.fieldAddr 5 (.t 3)),
oT 22 26 (.load none (.t 25)),
oT 22 27 (.call false (.f 12) [(.t 24), (.t 26)]),
oP 28 22 (.t 27) cF,
oM 4 28]))
.ret))
def rd_r08_Same : List RD := [.tmp 4 true none]
theorem ok_r08_Same : fnOk Tryz.prog Tryz.f114 ir_r08_Same rd_r08_Same = true := by kernel_rfl
def S_r08_Same : List AV → List Obj → Option (Prop × AV)
  | [.agg [.int .i64 c, .int .i64 f, .bool h, .int .u64 x, .imm (.int .u8) v, .imm (.int .u8) m], .agg [.int .i64 c', .int .i64 f', .bool h', .int .u64 x', .imm (.int .u8) v', .imm (.int .u8) m']], [] => some ((True, .bool (sameO c f h x v m c' f' h' x' v' m')))
  | _, _ => none
theorem snd_r08_Same : SoundS Tryz.prog 114 (RoF S_r08_Same).sum := by
  refine ro_fn Tryz.func114 ok_r08_Same (env_cons (s := RoF S_r08_Alike) snd_r08_Alike (env_cons (s := RoF S_r01_Bytes) snd_r01_Bytes (env_nil _))) fun args objs p v e => ?_
  unfold S_r08_Same at e
  split at e
  · rename_i c f h x v m c' f' h' x' v' m'
    cases e
    refine ⟨rfl, fun hw ho hp => ?_⟩
    change List Int at v
    change List Int at m
    change List Int at v'
    change List Int at m'
    repeat' (intro t ht; first | (cases t <;> first | (cases ht; done) | ((try simp only [bn_s] at ht); (try simp only [nd_s] at ht))) | (refine castG_go ht ?_; clear ht) | (refine ht ?_ ?_ <;> clear ht) | (refine ht.1 ?_ ?_ <;> clear ht) | (refine ht ?_; clear ht))
    all_goals first
      | exact True.intro
      | (refine ⟨?_, rfl⟩; unfold sameO; simp_all; done)
      | (refine ⟨?_, rfl⟩; unfold sameO; cases h <;> cases h' <;> simp_all; done)
      | (refine ⟨?_, rfl⟩; unfold sameO; rcases ‹(¬c = c' ∨ ¬f = f') ∨ ¬x = x'› with (h1 | h1) | h1 <;> rw [decide_eq_false h1] <;> simp)
      | trace_state
  · cases e
def ir_r08_Few : IR :=
(.seq
(.keep [0]
(.reg [oD 1 (.boxv (.t 0)),
oD 2 (.mov cF)]))
(.seq
(.keep [1]
(.reg [oA 3 4 1,
oL 4 3,
oE 5 4,
oB 6 .leq (.t 5) (cI 300),
oM 7 6,
oT 7 8 (.fieldAddr 5 (.t 1)),
oT 7 9 (.load none (.t 8)),
oT 7 10 (.len (.t 9)),
oT 7 11 (.bin .leq (.t 10) (cI 300)),
oP 12 7 (.t 11) cF,
oM 2 12]))
.ret))
def rd_r08_Few : List RD := [.tmp 2 true none]
theorem ok_r08_Few : fnOk Tryz.prog Tryz.f89 ir_r08_Few rd_r08_Few = true := by kernel_rfl
def S_r08_Few : List AV → List Obj → Option (Prop × AV)
  | [.agg [.int .i64 c, .int .i64 f, .bool h, .int .u64 x, .imm (.int .u8) v, .imm (.int .u8) m]], [] => some ((True, .bool (decide (v.length ≤ 300) && decide (m.length ≤ 300))))
  | _, _ => none
theorem snd_r08_Few : SoundS Tryz.prog 89 (RoF S_r08_Few).sum := by
  refine ro_fn Tryz.func89 ok_r08_Few (env_nil _) fun args objs p v e => ?_
  unfold S_r08_Few at e
  split at e
  · rename_i c f h x v m
    cases e
    refine ⟨rfl, fun hw ho hp => ?_⟩
    change List Int at v
    change List Int at m
    repeat' (intro t ht; first | (cases t <;> first | (cases ht; done) | ((try simp only [bn_s] at ht); (try simp only [nd_s] at ht))) | (refine castG_go ht ?_; clear ht) | (refine ht ?_ ?_ <;> clear ht) | (refine ht.1 ?_ ?_ <;> clear ht) | (refine ht ?_; clear ht))
    all_goals first
      | exact True.intro
      | (simp_all; done)
      | (have e : decide (v.length ≤ 300) = false := decide_eq_false (by omega)
         rw [e]; exact ⟨rfl, rfl⟩)
      | (have e : decide (v.length ≤ 300) = true := decide_eq_true (by omega)
         rw [e]; refine ⟨?_, rfl⟩; rw [Bool.true_and]; congr 1; rw [Bool.eq_iff_iff]; simp only [decide_eq_true_eq]; omega)
      | trace_state
  · cases e
end Go.Eng
namespace Go.Eng
open Go.Proofs
set_option linter.unusedVariables false
set_option linter.unusedSimpArgs false
set_option maxRecDepth 100000
set_option maxHeartbeats 1000000
def L1 : List Int := [128, 0, 10, 2, 8, 0, 7]
def L2 : List Int := [128, 0, 11, 4, 8, 0, 8, 0]
theorem s1 : decE L1 = 0 ∧ decI L1 (decC L1) = 32768 ∧ decI L1 (decF L1) = 5 ∧ decH L1 = false ∧ decI L1 (decX L1) = 0 ∧ decR L1 (decV L1) = [8, 0] ∧ decR L1 (decM L1) = [] ∧ decI L1 (decN L1) = 6 ∧ decE L2 = 1033 := by decide +kernel
theorem s2 : rightO 32768 5 false 0 [8, 0] [] = true ∧ encO 32768 5 false 0 [8, 0] [] = [128, 0, 10, 2, 8, 0] := by decide +kernel
end Go.Eng
namespace Go.Eng
open Go.Proofs
set_option linter.unusedVariables false
set_option linter.unusedSimpArgs false
set_option maxRecDepth 100000
set_option maxHeartbeats 1000000
def ir_bytes_Equal : IR :=
(.seq
(.keep [0, 1]
(.reg [oD 4 (.mov cF)]))
(.seq
(.keep [0, 1]
(.reg [oM 5 0,
oD 6 (.b2s (.t 5)),
oM 7 1,
oD 8 (.b2s (.t 7)),
oB 9 .eql (.t 6) (.t 8),
oM 4 9]))
.ret))
def rd_bytes_Equal : List RD := [.tmp 4 true none]
theorem ok_bytes_Equal : fnOk Tryz.prog Tryz.f53 ir_bytes_Equal rd_bytes_Equal = true := by kernel_rfl
def S_bytes_Equal : List AV → List Obj → Option (Prop × AV)
  | [.imm (.int .u8) a, .imm (.int .u8) b], [] => some ((True, .bool (decide (a = b))))
  | _, _ => none
theorem snd_bytes_Equal : SoundS Tryz.prog 53 (RoF S_bytes_Equal).sum := by
  refine ro_fn Tryz.func53 ok_bytes_Equal (env_nil _) fun args objs p v e => ?_
  unfold S_bytes_Equal at e
  split at e
  · rename_i a b
    cases e
    refine ⟨rfl, fun hw ho hp => ?_⟩
    change List Int at a
    change List Int at b
    repeat' (intro t ht; first | (cases t <;> first | (cases ht; done) | ((try simp only [bn_s] at ht); (try simp only [nd_s] at ht))) | (refine castG_go ht ?_; clear ht) | (refine ht ?_ ?_ <;> clear ht) | (refine ht.1 ?_ ?_ <;> clear ht) | (refine ht ?_; clear ht))
    all_goals first
      | exact True.intro
      | exact ⟨rfl, rfl⟩
      | trace_state
  · cases e
def ir_oxm_Alike : IR :=
(.seq
(.keep [0, 1]
(.reg [oD 2 (.boxv (.t 0)),
oD 3 (.boxv (.t 1)),
oD 4 (.mov cF)]))
(.seq
(.keep [2, 3]
(.reg [oA 5 0 2,
oL 6 5,
oA 7 0 3,
oL 8 7,
oB 9 .eql (.t 6) (.t 8),
oM 10 9,
oT 10 11 (.fieldAddr 1 (.t 2)),
oT 10 12 (.load none (.t 11)),
oT 10 13 (.fieldAddr 1 (.t 3)),
oT 10 14 (.load none (.t 13)),
oT 10 15 (.bin .eql (.t 12) (.t 14)),
oP 16 10 (.t 15) cF,
oM 17 16,
oT 17 18 (.fieldAddr 3 (.t 2)),
oT 17 19 (.load none (.t 18)),
oT 17 20 (.fieldAddr 3 (.t 3)),
oT 17 21 (.load none (.t 20)),
oT 17 22 (.bin .eql (.t 19) (.t 21)),
oP 23 17 (.t 22) cF,
oM 4 23]))
.ret))
def rd_oxm_Alike : List RD := [.tmp 4 true none]
theorem ok_oxm_Alike : fnOk Tryz.prog Tryz.f136 ir_oxm_Alike rd_oxm_Alike = true := by kernel_rfl
def S_oxm_Alike : List AV → List Obj → Option (Prop × AV)
  | [.agg [.int .i64 c, .int .i64 f, .bool h, .int .u64 x, .imm (.int .u8) v, .imm (.int .u8) m], .agg [.int .i64 c', .int .i64 f', .bool h', .int .u64 x', .imm (.int .u8) v', .imm (.int .u8) m']], [] => some ((True, .bool (decide (c = c') && decide (f = f') && decide (x = x'))))
  | _, _ => none
theorem snd_oxm_Alike : SoundS Tryz.prog 136 (RoF S_oxm_Alike).sum := by
  refine ro_fn Tryz.func136 ok_oxm_Alike (env_nil _) fun args objs p v e => ?_
  unfold S_oxm_Alike at e
  split at e
  · rename_i c f h x v m c' f' h' x' v' m'
    cases e
    refine ⟨rfl, fun hw ho hp => ?_⟩
    change List Int at v
    change List Int at m
    change List Int at v'
    change List Int at m'
    repeat' (intro t ht; first | (cases t <;> first | (cases ht; done) | ((try simp only [bn_s] at ht); (try simp only [nd_s] at ht))) | (refine castG_go ht ?_; clear ht) | (refine ht ?_ ?_ <;> clear ht) | (refine ht.1 ?_ ?_ <;> clear ht) | (refine ht ?_; clear ht))
    all_goals first
      | exact True.intro
      | (simp_all; done)
      | trace_state
  · cases e
def ir_oxm_Same : IR :=
(.seq
(.keep [0, 1]
(.reg [oD 2 (.boxv (.t 0)),
oD 3 (.boxv (.t 1)),
oD 4 (.mov cF)]))
(.seq
(.keep [2, 3]
(.reg [oK 5 6 2,
oK 6 6 3,
oC 7 136 [.t 5, .t 6],
oM 8 7,
oT 8 9 (.fieldAddr 2 (.t 2)),
oT 8 10 (.load none (.t 9)),
oT 8 11 (.fieldAddr 2 (.t 3)),
oT 8 12 (.load none (.t 11)),
oT 8 13 (.eqb false (.t 10) (.t 12)),
oP 14 8 (.t 13) cF,
oM 15 14,
oT 15 16 (.fieldAddr 4 (.t 2)),
oT 15 17 (.load none (.t 16)),
oT 15 18 (.fieldAddr 4 (.t 3)),
oT 15 19 (.load none (.t 18)),
oT 15 20 (.call false (.f 53) [(.t 17), (.t 19)]),
oP 21 15 (.t 20) cF,
oM 22 21,
oT 22 23 (.fieldAddr 5 (.t 2)),
oT 22 24 (.load none (.t 23)),
oT 22 25 (.fieldAddr 5 (.t 3)),
oT 22 26 (.load none (.t 25)),
oT 22 27 (.call false (.f 53) [(.t 24), (.t 26)]),
oP 28 22 (.t 27) cF,
oM 4 28]))
.ret))
def rd_oxm_Same : List RD := [.tmp 4 true none]
theorem ok_oxm_Same : fnOk Tryz.prog Tryz.f99 ir_oxm_Same rd_oxm_Same = true := by kernel_rfl
def S_oxm_Same : List AV → List Obj → Option (Prop × AV)
  | [.agg [.int .i64 c, .int .i64 f, .bool h, .int .u64 x, .imm (.int .u8) v, .imm (.int .u8) m], .agg [.int .i64 c', .int .i64 f', .bool h', .int .u64 x', .imm (.int .u8) v', .imm (.int .u8) m']], [] => some ((True, .bool (sameO c f h x v m c' f' h' x' v' m')))
  | _, _ => none
theorem snd_oxm_Same : SoundS Tryz.prog 99 (RoF S_oxm_Same).sum := by
  refine ro_fn Tryz.func99 ok_oxm_Same (env_cons (s := RoF S_oxm_Alike) snd_oxm_Alike (env_cons (s := RoF S_bytes_Equal) snd_bytes_Equal (env_nil _))) fun args objs p v e => ?_
  unfold S_oxm_Same at e
  split at e
  · rename_i c f h x v m c' f' h' x' v' m'
    cases e
    refine ⟨rfl, fun hw ho hp => ?_⟩
    change List Int at v
    change List Int at m
    change List Int at v'
    change List Int at m'
    repeat' (intro t ht; first | (cases t <;> first | (cases ht; done) | ((try simp only [bn_s] at ht); (try simp only [nd_s] at ht))) | (refine castG_go ht ?_; clear ht) | (refine ht ?_ ?_ <;> clear ht) | (refine ht.1 ?_ ?_ <;> clear ht) | (refine ht ?_; clear ht))
    all_goals first
      | exact True.intro
      | (refine ⟨?_, rfl⟩; unfold sameO; simp_all; done)
      | (refine ⟨?_, rfl⟩; unfold sameO; cases h <;> cases h' <;> simp_all; done)
      | (refine ⟨?_, rfl⟩; unfold sameO; rcases ‹(¬c = c' ∨ ¬f = f') ∨ ¬x = x'› with (h1 | h1) | h1 <;> rw [decide_eq_false h1] <;> simp)
      | trace_state
  · cases e
end Go.Eng
namespace Go.Eng
open Go.Proofs
set_option linter.unusedVariables false
set_option linter.unusedSimpArgs false
set_option maxRecDepth 100000
set_option maxHeartbeats 1000000
abbrev OV := Int × Int × Bool × Int × List Int × List Int × Unit
instance : DecidableEq (Int × List Int × List Int × Unit) := inferInstance
instance : DecidableEq OV := inferInstance
def lenO (o : OV) : Prop := o.2.2.2.2.1.length ≤ 100000 ∧ o.2.2.2.2.2.1.length ≤ 100000
structure allLen (l : List OV) : Prop where
  h : ∀ o ∈ l, lenO o
end Go.Eng
namespace Go.Eng
open Go.Proofs
set_option linter.unusedVariables false
set_option linter.unusedSimpArgs false
set_option maxRecDepth 100000
set_option maxHeartbeats 1000000
def hI (h : Bool) : Int := if h = true then 1 else 0
end Go.Eng
namespace Go.Eng
open Go.Proofs
set_option linter.unusedVariables false
set_option linter.unusedSimpArgs false
set_option maxRecDepth 100000
set_option maxHeartbeats 1000000
theorem byteAt_succ {n : Int} {k j : Nat} (h : j < k) (hk : k ≤ 7) : byteAt n ((k + 1 : Nat) : Int) j = byteAt (n / 256) k j := by
  unfold byteAt
  have e : min (8 * (((k + 1 : Nat) : Int) - 1 - j)).toNat 64 = 8 + 8 * (k - 1 - j) := by omega
  have e' : min (8 * ((k : Int) - 1 - j)).toNat 64 = 8 * (k - 1 - j) := by omega
  have hp : ∀ m : Nat, (0 : Int) ≤ 2 ^ m := fun m => Int.le_of_lt (Int.pow_pos (by decide))
  rw [e, e', Int.fdiv_eq_ediv_of_nonneg _ (hp _), Int.fdiv_eq_ediv_of_nonneg _ (hp _), Int.pow_add, ← Int.ediv_ediv_of_nonneg (hp 8)]
  rfl
theorem bytesN_succ {n : Int} {k : Nat} (hk : k ≤ 7) : bytesN n ((k + 1 : Nat) : Int) = bytesN (n / 256) k ++ [n % 256] := by
  unfold bytesN bytesT
  rw [Int.toNat_natCast, Int.toNat_natCast, List.range_succ, List.map_append]
  congr 1
  · apply List.map_congr_left
    intro j hj
    exact byteAt_succ (List.mem_range.1 hj) hk
  · show [byteAt n ((k + 1 : Nat) : Int) k] = _
    unfold byteAt
    have e : min (8 * (((k + 1 : Nat) : Int) - 1 - k)).toNat 64 = 0 := by omega
    rw [e, Int.pow_zero, Int.fdiv_one]
theorem numL_bytesN : ∀ (k : Nat) (n : Int), k ≤ 8 → 0 ≤ n → n < 256 ^ k → numL (bytesN n k) = n
  | 0, n, _, h0, h1 => by
    have : n = 0 := by rw [Int.pow_zero] at h1; omega
    subst this; rfl
  | k + 1, n, hk, h0, h1 => by
    rw [bytesN_succ (by omega), numL_snoc, numL_bytesN k (n / 256) (by omega) (by omega) (by rw [Int.pow_succ] at h1; exact Int.ediv_lt_of_lt_mul (by decide) h1)]
    omega
theorem bytesN_numL : ∀ (k : Nat) (b : List Int), k ≤ 8 → b.length = k → (∀ x ∈ b, 0 ≤ x ∧ x ≤ 255) → bytesN (numL b) k = b
  | 0, b, _, hl, _ => by
    have : b = [] := List.eq_nil_of_length_eq_zero hl
    subst this; rfl
  | k + 1, b, hk, hl, hb => by
    rcases List.eq_nil_or_concat b with rfl | ⟨l, c, rfl⟩
    · cases hl
    · rw [List.concat_eq_append] at hl hb ⊢
      have hc := hb c (by simp)
      have hl' : l.length = k := by simpa using hl
      rw [numL_snoc, bytesN_succ (by omega)]
      rw [show (numL l * 256 + c) / 256 = numL l by omega, show (numL l * 256 + c) % 256 = c by omega, bytesN_numL k l (by omega) hl' fun x hx => hb x (by simp [hx])]
theorem bytesN_0 (w : Int) : bytesN 0 w = List.replicate w.toNat 0 := (bytesN_zero w).symm
theorem zeroL_rep (k : Nat) : zeroL (List.replicate k 0) = true := by
  unfold zeroL; rw [List.all_eq_true]; intro x hx; rw [List.eq_of_mem_replicate hx]; rfl
theorem zeroL_eq {b : List Int} (h : zeroL b = true) : b = List.replicate b.length 0 := by
  unfold zeroL at h
  rw [List.all_eq_true] at h
  exact List.eq_replicate_iff.2 ⟨rfl, fun x hx => by simpa using h x hx⟩
theorem putA_acc : ∀ (w xs b : List Int), putA w xs b = (putA w xs []).map (b ++ ·)
  | [], xs, b => by simp [putA]
  | n :: r, xs, b => by
    simp only [putA]
    split
    · rw [putA_acc r xs (b ++ bytesN 0 (0 - n)), putA_acc r xs ([] ++ bytesN 0 (0 - n)), Option.map_map]
      congr 1; funext z; simp
    · cases xs with
      | nil => rfl
      | cons x ys =>
        dsimp only
        split
        · rfl
        · rw [putA_acc r ys (b ++ bytesN x n), putA_acc r ys ([] ++ bytesN x n), Option.map_map]
          congr 1; funext z; simp
theorem getA_acc : ∀ (w b o : List Int), (getA w b o).2 = (getA w b []).2 ∧ ((getA w b []).2 = 0 → (getA w b o).1 = o ++ (getA w b []).1)
  | [], b, o => by simp [getA]
  | n :: r, b, o => by
    simp only [getA]
    split
    · exact ⟨rfl, fun h => by cases h⟩
    · split
      · have h1 := getA_acc r (b.drop (absI n).toNat) (o ++ [numL (b.take (absI n).toNat)])
        have h2 := getA_acc r (b.drop (absI n).toNat) ([] ++ [numL (b.take (absI n).toNat)])
        refine ⟨h1.1.trans h2.1.symm, fun h => ?_⟩
        have h0 := h2.1.symm.trans h
        rw [h1.2 h0, h2.2 h0]; simp
      · split
        · exact getA_acc r (b.drop (absI n).toNat) o
        · exact ⟨rfl, fun h => by cases h⟩
theorem fit_lt {x n : Int} (h0 : 0 ≤ x) (h1 : x ≤ 18446744073709551615) (hn : 0 < n) (h8 : n ≤ 8) (hf : ¬ (n < 8 ∧ x.fdiv (2 ^ (min (8 * n).toNat 64)) ≠ 0)) : x < 256 ^ n.toNat := by
  by_cases hlt : n < 8
  · have hz : x.fdiv (2 ^ (min (8 * n).toNat 64)) = 0 := Classical.byContradiction fun h => hf ⟨hlt, h⟩
    have e : min (8 * n).toNat 64 = 8 * n.toNat := by omega
    have hp : (0 : Int) < 2 ^ (8 * n.toNat) := Int.pow_pos (by decide)
    rw [e, Int.fdiv_eq_ediv_of_nonneg _ (Int.le_of_lt hp)] at hz
    have h2 := Int.lt_ediv_add_one_mul_self x hp
    rw [hz] at h2
    have e2 : (2 : Int) ^ (8 * n.toNat) = 256 ^ n.toNat := by rw [Int.pow_mul]; rfl
    rw [← e2]; omega
  · have : n = 8 := by omega
    subst this
    show x < 256 ^ 8
    omega
theorem lt_fit {x n : Int} (h0 : 0 ≤ x) (hn : 0 < n) (h8 : n ≤ 8) (hx : x < 256 ^ n.toNat) : ¬ (n < 8 ∧ x.fdiv (2 ^ (min (8 * n).toNat 64)) ≠ 0) := by
  rintro ⟨hlt, hz⟩
  apply hz
  have e : min (8 * n).toNat 64 = 8 * n.toNat := by omega
  have hp : (0 : Int) < 2 ^ (8 * n.toNat) := Int.pow_pos (by decide)
  have e2 : (2 : Int) ^ (8 * n.toNat) = 256 ^ n.toNat := by rw [Int.pow_mul]; rfl
  rw [e, Int.fdiv_eq_ediv_of_nonneg _ (Int.le_of_lt hp), e2]
  exact Int.ediv_eq_zero_of_lt h0 hx
def okR (w : List Int) : Prop := ∀ n ∈ w, n ≠ 0 ∧ n ≤ 8 ∧ -64 ≤ n
theorem put_get : ∀ (w xs r rest : List Int), okR w → (∀ x ∈ xs, 0 ≤ x ∧ x ≤ 18446744073709551615) → (w.map oneI).sum = xs.length → putA w xs [] = some r → getA w (r ++ rest) [] = (xs, 0)
  | [], xs, r, rest, _, _, hc, h => by
    simp at hc
    have : xs = [] := List.eq_nil_of_length_eq_zero (by omega)
    subst this; rfl
  | n :: w, xs, r, rest, hw, hx, hc, h => by
    have hn := hw n (by simp)
    have hw' : okR w := fun m hm => hw m (by simp [hm])
    simp only [putA] at h
    rw [List.map_cons, List.sum_cons] at hc
    by_cases hneg : n < 0
    · rw [if_pos hneg, List.nil_append, putA_acc] at h
      have h1 : oneI n = 0 := if_neg (by omega)
      obtain ⟨r', hr', rfl⟩ := Option.map_eq_some_iff.1 h
      have ih := put_get w xs r' rest hw' hx (by omega) hr'
      have hl := bytesN_len (n := 0) (w := 0 - n) (by omega)
      have ha := absI_neg hneg
      have hln : (bytesN 0 (0 - n)).length = (absI n).toNat := by omega
      simp only [getA]
      rw [List.append_assoc, if_neg (by rw [List.length_append]; omega), if_neg (by omega), ← hln, List.take_left, List.drop_left, bytesN_0, zeroL_rep, if_pos rfl, ih]
    · rw [if_neg hneg] at h
      have h1 : oneI n = 1 := if_pos (by omega)
      cases xs with
      | nil => cases h
      | cons x ys =>
        dsimp only at h
        by_cases hf : n < 8 ∧ x.fdiv (2 ^ (min (8 * n).toNat 64)) ≠ 0
        · rw [if_pos hf] at h; cases h
        · rw [if_neg hf, List.nil_append, putA_acc] at h
          obtain ⟨r', hr', rfl⟩ := Option.map_eq_some_iff.1 h
          have hx0 := hx x (by simp)
          have hlt := fit_lt hx0.1 hx0.2 (by omega) hn.2.1 hf
          have ih := put_get w ys r' rest hw' (fun y hy => hx y (by simp [hy])) (by rw [List.length_cons] at hc; omega) hr'
          have hl := bytesN_len (n := x) (w := n) (by omega)
          have ha := absI_nn hneg
          have hln : (bytesN x n).length = (absI n).toNat := by omega
          have hnum : numL (bytesN x n) = x := by
            have := numL_bytesN n.toNat x (by omega) hx0.1 hlt
            rwa [show ((n.toNat : Nat) : Int) = n by omega] at this
          simp only [getA]
          have hacc := getA_acc w (r' ++ rest) ([] ++ [x])
          rw [List.append_assoc, if_neg (by rw [List.length_append]; omega), if_pos (by omega), ← hln, List.take_left, List.drop_left, hnum]
          rw [ih] at hacc
          exact Prod.ext ((hacc.2 rfl).trans (by simp)) hacc.1
theorem get_put : ∀ (w b xs : List Int), okR w → (∀ x ∈ b, 0 ≤ x ∧ x ≤ 255) → getA w b [] = (xs, 0) → (w.map oneI).sum = xs.length ∧ (w.map absI).sum ≤ b.length ∧ putA w xs [] = some (b.take (w.map absI).sum.toNat)
  | [], b, xs, _, _, h => by
    simp only [getA, Prod.mk.injEq] at h
    obtain ⟨rfl, _⟩ := h
    exact ⟨rfl, Int.natCast_nonneg _, rfl⟩
  | n :: w, b, xs, hw, hb, h => by
    have hn := hw n (by simp)
    have hw' : okR w := fun m hm => hw m (by simp [hm])
    have ha := absI_le (n := n)
    have hs : 0 ≤ (w.map absI).sum := by
      have : ∀ l : List Int, 0 ≤ (l.map absI).sum := fun l => by
        induction l with
        | nil => simp
        | cons a l ih => rw [List.map_cons, List.sum_cons]; have := absI_le (n := a); omega
      exact this w
    have hd : (b.drop (absI n).toNat).length = b.length - (absI n).toNat := List.length_drop
    have hbd : ∀ x ∈ b.drop (absI n).toNat, 0 ≤ x ∧ x ≤ 255 := fun x hx => hb x (List.mem_of_mem_drop hx)
    have htk : ∀ k : Nat, (b.take (absI n).toNat) ++ (b.drop (absI n).toNat).take k = b.take ((absI n).toNat + k) := fun k => by rw [List.take_add]
    simp only [getA] at h
    rw [List.map_cons, List.sum_cons, List.map_cons, List.sum_cons]
    by_cases hsh : (b.length : Int) < absI n
    · rw [if_pos hsh] at h; cases h
    · rw [if_neg hsh] at h
      have htl : (b.take (absI n).toNat).length = (absI n).toNat := by rw [List.length_take]; omega
      by_cases hp : 0 < n
      · rw [if_pos hp] at h
        have hacc := getA_acc w (b.drop (absI n).toNat) ([] ++ [numL (b.take (absI n).toNat)])
        rw [h] at hacc
        have h0 := hacc.1.symm
        obtain ⟨ys, hys⟩ : ∃ ys, getA w (b.drop (absI n).toNat) [] = (ys, 0) := ⟨_, Prod.ext rfl h0⟩
        rw [hys] at hacc
        have hxs := hacc.2 rfl
        obtain ⟨i1, i2, i3⟩ := get_put w _ ys hw' hbd hys
        have e1 : oneI n = 1 := if_pos hp
        have ea := absI_nn (n := n) (by omega)
        dsimp only [List.nil_append] at hxs
        rw [List.singleton_append] at hxs
        subst hxs
        have hbt : ∀ x ∈ b.take (absI n).toNat, 0 ≤ x ∧ x ≤ 255 := fun x hx => hb x (List.mem_of_mem_take hx)
        have hnl := numL_le (b.take (absI n).toNat) hbt
        have h2 := hnl.2
        rw [htl] at h2
        have e3 : (absI n).toNat = n.toNat := by rw [ea]
        have h4 : numL (b.take (absI n).toNat) < 256 ^ n.toNat := by rw [← e3]; exact h2
        have hfit : ¬ (n < 8 ∧ (numL (b.take (absI n).toNat)).fdiv (2 ^ (min (8 * n).toNat 64)) ≠ 0) := lt_fit hnl.1 hp hn.2.1 h4
        have hbk := bytesN_numL (absI n).toNat (b.take (absI n).toNat) (by omega) htl hbt
        rw [show (((absI n).toNat : Nat) : Int) = n by omega] at hbk
        refine ⟨by rw [List.length_cons]; omega, by omega, ?_⟩
        simp only [putA]
        rw [if_neg (by omega), if_neg hfit, List.nil_append, putA_acc, i3, hbk]
        show some _ = _
        dsimp only; rw [htk]; congr 2; omega
      · rw [if_neg hp] at h
        by_cases hz : zeroL (b.take (absI n).toNat) = true
        · rw [if_pos hz] at h
          obtain ⟨i1, i2, i3⟩ := get_put w _ xs hw' hbd h
          have e1 : oneI n = 0 := if_neg hp
          have hze := zeroL_eq hz
          rw [htl] at hze
          have ea := absI_neg (n := n) (by omega)
          refine ⟨by omega, by omega, ?_⟩
          simp only [putA]
          rw [if_pos (by omega), List.nil_append, putA_acc, i3, bytesN_0, show (0 - n).toNat = (absI n).toNat by omega, ← hze]
          show some _ = _
          dsimp only; rw [htk]; congr 2; omega
        · rw [if_neg hz] at h; cases h
theorem putF_getF {w xs : List Int} (rest : List Int) (hx : ∀ x ∈ xs, 0 ≤ x ∧ x ≤ 18446744073709551615) (hk : putK w xs = true) : getF w (putB w xs ++ rest) = (xs, 0) ∧ (putB w xs).length = (sizeW w).toNat := by
  unfold putK at hk
  obtain ⟨r, hr⟩ := Option.isSome_iff_exists.1 hk
  have hb : putB w xs = r := by unfold putB; rw [hr]; rfl
  rw [hb]
  unfold putF at hr
  split at hr
  · rename_i h
    have hw : okR w := (rightF_t.1 h.1).2
    have hc : (w.map oneI).sum = xs.length := by have := h.2; unfold countW at this; rwa [if_pos h.1] at this
    unfold getF sizeW
    rw [if_pos h.1, if_pos h.1]
    refine ⟨put_get w xs r rest hw hx hc hr, ?_⟩
    have hl : ∀ (w xs r : List Int), okR w → putA w xs [] = some r → (r.length : Int) = (w.map absI).sum := by
      intro w
      induction w with
      | nil => intro xs r _ h; simp only [putA, Option.some.injEq] at h; subst h; rfl
      | cons n w ih =>
        intro xs r hw h
        have hn := hw n (by simp)
        have hw' : okR w := fun m hm => hw m (by simp [hm])
        simp only [putA] at h
        rw [List.map_cons, List.sum_cons]
        split at h
        · rw [putA_acc] at h
          obtain ⟨r', hr', rfl⟩ := Option.map_eq_some_iff.1 h
          have := ih _ _ hw' hr'
          have hl := bytesN_len (n := 0) (w := 0 - n) (by omega)
          have ha := absI_neg (n := n) (by assumption)
          simp only [List.nil_append, List.length_append]; omega
        · cases xs with
          | nil => cases h
          | cons x ys =>
            dsimp only at h
            split at h
            · cases h
            · rw [putA_acc] at h
              obtain ⟨r', hr', rfl⟩ := Option.map_eq_some_iff.1 h
              have := ih _ _ hw' hr'
              have hl := bytesN_len (n := x) (w := n) (by omega)
              have ha := absI_nn (n := n) (by assumption)
              simp only [List.nil_append, List.length_append]; omega
    have := hl w xs r hw hr
    omega
  · cases hr
theorem getF_putF {w b xs : List Int} (hb : ∀ x ∈ b, 0 ≤ x ∧ x ≤ 255) (h : getF w b = (xs, 0)) : putK w xs = true ∧ putB w xs = b.take (sizeW w).toNat ∧ sizeW w ≤ b.length := by
  unfold getF at h
  split at h
  · rename_i hr
    obtain ⟨h1, h2, h3⟩ := get_put w b xs (rightF_t.1 hr).2 hb h
    have hF : putF w xs = some (b.take (w.map absI).sum.toNat) := by
      unfold putF countW; rw [if_pos hr, if_pos ⟨hr, h1⟩, h3]
    unfold putK putB sizeW
    rw [hF, if_pos hr]; exact ⟨rfl, rfl, h2⟩
  · cases h
end Go.Eng
namespace Go.Eng
open Go.Proofs
set_option linter.unusedVariables false
set_option linter.unusedSimpArgs false
set_option maxRecDepth 100000
set_option maxHeartbeats 1000000
theorem allT_step {α : Type} {f : α → Bool} {l : List α} {i : Nat} {d : α} (h : i < l.length) (ht : (l.take i).all f = true) (hd : f (l.getD i d) = true) : (l.take (i + 1)).all f = true := by
  rw [List.take_succ_eq_append_getElem h, List.all_append, ht, Bool.true_and, List.all_cons, List.all_nil, Bool.and_true]
  rwa [List.getD_eq_getElem?_getD, List.getElem?_eq_getElem h] at hd
theorem allT_end {α : Type} {f : α → Bool} {l : List α} {i : Nat} (h : l.length ≤ i) (ht : (l.take i).all f = true) : l.all f = true := by
  rwa [List.take_of_length_le h] at ht
theorem all_miss {α : Type} {f : α → Bool} {l : List α} {i : Nat} {d : α} (h : i < l.length) (hd : f (l.getD i d) = false) : l.all f = false := by
  rw [List.all_eq_false]
  exact ⟨l.getD i d, getD_mem' h d, by rw [hd]; decide⟩
end Go.Eng
namespace Go.Eng
open Go.Proofs
set_option linter.unusedVariables false
set_option linter.unusedSimpArgs false
set_option maxRecDepth 100000
set_option maxHeartbeats 1000000
end Go.Eng
namespace Go.Eng
open Go.Proofs
set_option linter.unusedVariables false
set_option linter.unusedSimpArgs false
set_option maxRecDepth 100000
set_option maxHeartbeats 1000000
theorem bufB_lim {x l : List Int} {room e : Int} (h : l.length ≤ 1000000) (hr : room ≤ 1000000) : (bufB x l room e).length ≤ 1000000 := by
  unfold bufB bufOk; split
  · rename_i hb; simp only [Bool.and_eq_true, decide_eq_true_eq] at hb; rw [List.length_append]; omega
  · exact h
theorem rowB_lim {w xs l : List Int} {room e : Int} (h : l.length ≤ 1000000) (hr : room ≤ 1000000) : (rowB w xs l room e).length ≤ 1000000 := by
  unfold rowB; split
  · exact bufB_lim h hr
  · exact h
end Go.Eng
namespace Go.Eng
open Go.Proofs
set_option linter.unusedVariables false
set_option linter.unusedSimpArgs false
set_option maxRecDepth 100000
set_option maxHeartbeats 1000000
def fwO (o : OV) : Bool := decide (o.2.2.2.2.1.length ≤ 300) && decide (o.2.2.2.2.2.1.length ≤ 300)
theorem fwO_t {o : OV} (h : o.2.2.2.2.1.length ≤ 300 ∧ o.2.2.2.2.2.1.length ≤ 300) : fwO o = true := by unfold fwO; simp [h.1, h.2]
theorem fwO_f {o : OV} (h : ¬ o.2.2.2.2.1.length ≤ 300 ∨ ¬ o.2.2.2.2.2.1.length ≤ 300) : fwO o = false := by unfold fwO; rcases h with h | h <;> simp [h]
def fewO (l : List OV) : Bool := l.all fwO && decide (l.length ≤ 60)
def smO (a b : OV) : Bool := sameO a.1 a.2.1 a.2.2.1 a.2.2.2.1 a.2.2.2.2.1 a.2.2.2.2.2.1 b.1 b.2.1 b.2.2.1 b.2.2.2.1 b.2.2.2.2.1 b.2.2.2.2.2.1
theorem smO_t {a b : OV} (h : smO a b = true) : a = b := by
  obtain ⟨a1, a2, a3, a4, a5, a6, _⟩ := a
  obtain ⟨b1, b2, b3, b4, b5, b6, _⟩ := b
  unfold smO sameO at h
  simp only [Bool.and_eq_true, decide_eq_true_eq, beq_iff_eq] at h
  obtain ⟨⟨⟨⟨⟨h1, h2⟩, h3⟩, h4⟩, h5⟩, h6⟩ := h
  rw [h1, h2, h3, h4, h5, h6]
theorem smO_f {a b : OV} (h : smO a b = false) : ¬ a = b := fun e => by
  rw [e] at h; unfold smO at h; rw [same_self] at h; cases h
structure okM (l : List OV) : Prop where
  a : allLen l
  n : l.length ≤ 100000
def ir_r09_Few : IR :=
(.seq
(.keep [0]
(.reg [oD 2 (.mov cF)]))
(.seq
(.seq
(.reg [oD 3 (.mov (cI 0))])
(.block 0
(.loop
(.seq
(.seq
(.keep [0, 3]
(.reg [oM 4 3,
oM 5 0,
oE 6 5,
oB 7 .lss (.t 4) (.t 6)]))
(.cond (.t 7)
.skip
(.exit 0)))
(.seq
(.block 1
(.seq
(.keep [0, 3]
(.reg [oM 10 0,
oM 11 3,
oI 12 6 10 11,
oK 13 6 12,
oC 14 89 [.t 13],
oD 15 (.un .not (.t 14))]))
(.cond (.t 15)
(.seq
(.keep []
(.reg [oD 2 (.mov cF)]))
.ret)
.skip)))
(.keep [0, 3]
(.reg [oM 8 3,
oB 9 .add (.t 8) (cI 1),
oM 3 9])))))))
(.seq
(.keep [0]
(.reg [oM 16 0,
oE 17 16,
oB 18 .leq (.t 17) (cI 60),
oM 2 18]))
.ret)))
def rd_r09_Few : List RD := [.tmp 2 true none]
theorem ok_r09_Few : fnOk Tryz.prog Tryz.f38 ir_r09_Few rd_r09_Few = true := by kernel_rfl
def S_r09_Few : List AV → List Obj → Option (Prop × AV)
  | [.imm (.cons (.int .i64) (.cons (.int .i64) (.cons .bool (.cons (.int .u64) (.cons (.sl (.int .u8)) (.cons (.sl (.int .u8)) .nil)))))) l], [] => some ((True, .bool (fewO l)))
  | _, _ => none
theorem snd_r09_Few : SoundS Tryz.prog 38 (RoF S_r09_Few).sum := by
  refine ro_fn Tryz.func38 ok_r09_Few (env_cons (s := RoF S_r08_Few) snd_r08_Few (env_nil _)) fun args objs p v e => ?_
  unfold S_r09_Few at e
  split at e
  · rename_i l
    cases e
    refine ⟨rfl, fun hw ho hp => ?_⟩
    change List OV at l
    have hl : l.length ≤ maxLen := (hw (.imm Y1 l) (by simp)).2
    unfold maxLen at hl
    clear hw ho
    repeat' (intro t ht; first | (cases t <;> first | (cases ht; done) | ((try simp only [bn_s] at ht); (try simp only [nd_s] at ht))) | (refine castG_go ht ?_; clear ht) | (refine ht ?_ ?_ <;> clear ht) | (refine ht.1 ?_ ?_ <;> clear ht) | (refine ht ?_; clear ht))
    all_goals first
      | (intro r h1 h2; clear h1; refine h2 ⟨[0, 3], Nat, (fun i => i ≤ l.length ∧ (l.take i).all fwO = true), fun i => [.imm Y1 l, .int .i64 i], fun _ => [], fun i => l.length - i, ⟨0, ⟨Nat.zero_le _, rfl⟩, rfl, rfl⟩, ?_⟩; clear h2)
    rintro i ⟨hi, he⟩
    repeat' (intro t ht; first | (cases t <;> first | (cases ht; done) | ((try simp only [bn_s] at ht); (try simp only [nd_s] at ht); (try (exfalso; first | contradiction | omega)))) | (refine castG_go ht ?_; clear ht) | (refine ht ?_ ?_ <;> clear ht) | (refine ht.1 ?_ ?_ <;> clear ht) | (refine ht ?_; clear ht))
    all_goals (try generalize (Ty.dflt Y1) = od at *)
    all_goals first
      | ((try simp only [nd_s, bn_s, mm_s] at *); omega)
      | (have h := allT_end (by omega) he
         refine ⟨?_, rfl⟩; unfold fewO; rw [h, Bool.true_and]; congr 1; exact decide_eq_decide.2 (by omega))
      | exact True.intro
      | (have hf := fwO_t ht
         exact ⟨i + 1, ⟨by omega, allT_step (d := od) (by omega) he hf⟩, by dsimp only; omega, rfl, rfl⟩)
      | (have hf := fwO_f ht
         have h : fewO l = false := by unfold fewO; rw [all_miss (d := od) (show i < l.length by omega) hf, Bool.false_and]
         refine ⟨?_, rfl⟩; rw [h]; done)
      | trace_state
  · cases e
def ir_r09_Same : IR :=
(.seq
(.keep [0, 1]
(.reg [oD 4 (.mov cF)]))
(.seq
(.seq
(.keep [0, 1]
(.reg [oM 6 0,
oE 7 6,
oM 8 1,
oE 9 8,
oB 10 .neq (.t 7) (.t 9)]))
(.cond (.t 10)
(.seq
(.reg [oD 4 (.mov cF)])
.ret)
.skip))
(.seq
(.seq
(.keep [0, 1]
(.reg [oD 5 (.mov (cI 0))]))
(.block 0
(.loop
(.seq
(.seq
(.keep [0, 1, 5]
(.reg [oM 11 5,
oM 12 0,
oE 13 12,
oB 14 .lss (.t 11) (.t 13)]))
(.cond (.t 14)
.skip
(.exit 0)))
(.seq
(.block 1
(.seq
(.keep [0, 1, 5]
(.regD [(oM 17 0, []),
(oM 18 5, [0]),
(oI 19 6 17 18, []),
(oK 20 6 19, []),
(oM 21 1, [0,0,0,0]),
(oM 22 5, [0,0,0,0,0]),
(oI 23 6 21 22, [2,0,0,0]),
(oK 24 6 23, [3,0,0,0]),
(oC 25 114 [.t 20, .t 24], []),
(oD 26 (.un .not (.t 25)), [])]))
(.cond (.t 26)
(.seq
(.keep []
(.reg [oD 4 (.mov cF)]))
.ret)
.skip)))
(.keep [0, 1, 5]
(.reg [oM 15 5,
oB 16 .add (.t 15) (cI 1),
oM 5 16])))))))
(.seq
(.keep []
(.reg [oD 4 (.mov cT)]))
.ret))))
def rd_r09_Same : List RD := [.tmp 4 true none]
theorem ok_r09_Same : fnOk Tryz.prog Tryz.f71 ir_r09_Same rd_r09_Same = true := by kernel_rfl
def S_r09_Same : List AV → List Obj → Option (Prop × AV)
  | [.imm (.cons (.int .i64) (.cons (.int .i64) (.cons .bool (.cons (.int .u64) (.cons (.sl (.int .u8)) (.cons (.sl (.int .u8)) .nil)))))) a, .imm (.cons (.int .i64) (.cons (.int .i64) (.cons .bool (.cons (.int .u64) (.cons (.sl (.int .u8)) (.cons (.sl (.int .u8)) .nil)))))) b], [] => some ((True, .bool (decide ((a : List OV) = b))))
  | _, _ => none
theorem snd_r09_Same : SoundS Tryz.prog 71 (RoF S_r09_Same).sum := by
  refine ro_fn Tryz.func71 ok_r09_Same (env_cons (s := RoF S_r08_Same) snd_r08_Same (env_nil _)) fun args objs p v e => ?_
  unfold S_r09_Same at e
  split at e
  · rename_i a b
    cases e
    refine ⟨rfl, fun hw ho hp => ?_⟩
    change List OV at a
    change List OV at b
    have hl : a.length ≤ maxLen := (hw (.imm Y1 a) (by simp)).2
    unfold maxLen at hl
    clear hw ho
    repeat' (intro t ht; first | (cases t <;> first | (cases ht; done) | ((try simp only [bn_s] at ht); (try simp only [nd_s] at ht))) | (refine castG_go ht ?_; clear ht) | (refine ht ?_ ?_ <;> clear ht) | (refine ht.1 ?_ ?_ <;> clear ht) | (refine ht ?_; clear ht))
    all_goals first
      | (have hne : a ≠ b := fun h => (by assumption : ¬ (a.length : Int) = b.length) (by rw [h])
         refine ⟨?_, rfl⟩; rw [decide_eq_false hne]; done)
      | (intro r h1 h2; clear h1; refine h2 ⟨[0, 1, 5], Nat, (fun i => i ≤ a.length ∧ a.take i = b.take i), fun i => [.imm Y1 a, .imm Y1 b, .int .i64 i], fun _ => [], fun i => a.length - i, ⟨0, ⟨Nat.zero_le _, rfl⟩, rfl, rfl⟩, ?_⟩; clear h2)
    rintro i ⟨hi, he⟩
    have hl2 : a.length = b.length := by omega
    repeat' (intro t ht; first | (cases t <;> first | (cases ht; done) | ((try simp only [bn_s] at ht); (try simp only [nd_s] at ht); (try (exfalso; first | contradiction | omega)))) | (refine castG_go ht ?_; clear ht) | (refine ht ?_ ?_ <;> clear ht) | (refine ht.1 ?_ ?_ <;> clear ht) | (refine ht ?_; clear ht))
    all_goals (try generalize (Ty.dflt Y1) = od at *)
    all_goals first
      | exact True.intro
      | ((try simp only [nd_s, bn_s, mm_s] at *); omega)
      | (have e := tkAll he (by omega) hl2
         refine ⟨?_, rfl⟩; rw [decide_eq_true e]; done)
      | (have hs : smO (a.getD i od) (b.getD i od) = false := by assumption
         have hne : a ≠ b := tkNe (d := od) (i := i) (smO_f hs)
         refine ⟨?_, rfl⟩; rw [decide_eq_false hne]; done)
      | (have hs : smO (a.getD i od) (b.getD i od) = true := by assumption
         exact ⟨i + 1, ⟨by omega, tkStep he (by omega) hl2 (d := od) (smO_t hs)⟩, by (try simp only [nd_s, bn_s, mm_s] at *); omega, rfl, rfl⟩)
      | trace_state
  · cases e
end Go.Eng
namespace Go.Eng
open Go.Proofs
set_option linter.unusedVariables false
set_option linter.unusedSimpArgs false
set_option maxRecDepth 100000
set_option maxHeartbeats 1000000
section
variable {I : Nat → Prop} {w : World} {mm : M}
end
end Go.Eng
namespace Go.Eng
open Go.Proofs
set_option linter.unusedVariables false
set_option linter.unusedSimpArgs false
set_option maxRecDepth 100000
set_option maxHeartbeats 1000000
end Go.Eng
namespace Go.Eng
open Go.Proofs
set_option linter.unusedVariables false
set_option linter.unusedSimpArgs false
set_option maxRecDepth 100000
set_option maxHeartbeats 1000000
theorem getA_len2 : ∀ (w b o : List Int), (getA w b o).2 = 0 ∨ (getA w b o).2 = 1 ∨ (getA w b o).2 = 2
  | [], b, o => .inl rfl
  | n :: r, b, o => by
    simp only [getA]
    split
    · exact .inr (.inl rfl)
    · split
      · exact getA_len2 r _ _
      · split
        · exact getA_len2 r _ _
        · exact .inr (.inr rfl)
theorem getK_of (w b : List Int) : getK w b = 0 ∨ getK w b = 1 ∨ getK w b = 2 := by
  unfold getK getF; split
  · exact getA_len2 w b []
  · exact .inr (.inr rfl)
end Go.Eng
namespace Go.Eng
open Go.Proofs
set_option linter.unusedVariables false
set_option linter.unusedSimpArgs false
set_option maxRecDepth 100000
set_option maxHeartbeats 1000000
def sameA (q a b c f : Int) (h : Bool) (x : Int) (v m d : List Int) (q' a' b' c' f' : Int) (h' : Bool) (x' : Int) (v' m' d' : List Int) : Bool := decide (q = q') && decide (a = a') && decide (b = b') && sameO c f h x v m c' f' h' x' v' m' && decide (d = d')
theorem same_selfA (q a b c f : Int) (h : Bool) (x : Int) (v m d : List Int) : sameA q a b c f h x v m d q a b c f h x v m d = true := by unfold sameA; rw [same_self]; simp
def ir_action_Same : IR :=
(.seq
(.keep [0, 1]
(.reg [oD 2 (.boxv (.t 0)),
oD 3 (.boxv (.t 1)),
oD 4 (.mov cF)]))
(.seq
(.keep [2, 3]
(.reg [oA 5 0 2,
oL 6 5,
oA 7 0 3,
oL 8 7,
oB 9 .eql (.t 6) (.t 8),
oM 10 9,
oT 10 11 (.fieldAddr 1 (.t 2)),
oT 10 12 (.load none (.t 11)),
oT 10 13 (.fieldAddr 1 (.t 3)),
oT 10 14 (.load none (.t 13)),
oT 10 15 (.bin .eql (.t 12) (.t 14)),
oP 16 10 (.t 15) cF,
oM 17 16,
oT 17 18 (.fieldAddr 2 (.t 2)),
oT 17 19 (.load none (.t 18)),
oT 17 20 (.fieldAddr 2 (.t 3)),
oT 17 21 (.load none (.t 20)),
oT 17 22 (.bin .eql (.t 19) (.t 21)),
oP 23 17 (.t 22) cF,
oM 24 23,
oT 24 25 (.fieldAddr 3 (.t 2)),
oT 24 26 (.load (some 6) (.t 25)),
oT 24 27 (.fieldAddr 3 (.t 3)),
oT 24 28 (.load (some 6) (.t 27)),
oT 24 29 (.call false (.f 99) [(.t 26), (.t 28)]),
oP 30 24 (.t 29) cF,
oM 31 30,
oT 31 32 (.fieldAddr 9 (.t 2)),
oT 31 33 (.load none (.t 32)),
oT 31 34 (.fieldAddr 9 (.t 3)),
oT 31 35 (.load none (.t 34)),
oT 31 36 (.call false (.f 53) [(.t 33), (.t 35)]),
oP 37 31 (.t 36) cF,
oM 4 37]))
.ret))
def rd_action_Same : List RD := [.tmp 4 true none]
theorem ok_action_Same : fnOk Tryz.prog Tryz.f101 ir_action_Same rd_action_Same = true := by kernel_rfl
def S_action_Same : List AV → List Obj → Option (Prop × AV)
  | [.agg [.int .i64 q, .int .u64 a, .int .u64 b, .int .i64 c, .int .i64 f, .bool h, .int .u64 x, .imm (.int .u8) v, .imm (.int .u8) m, .imm (.int .u8) d], .agg [.int .i64 q', .int .u64 a', .int .u64 b', .int .i64 c', .int .i64 f', .bool h', .int .u64 x', .imm (.int .u8) v', .imm (.int .u8) m', .imm (.int .u8) d']], [] => some ((True, .bool (sameA q a b c f h x v m d q' a' b' c' f' h' x' v' m' d')))
  | _, _ => none
theorem snd_action_Same : SoundS Tryz.prog 101 (RoF S_action_Same).sum := by
  refine ro_fn Tryz.func101 ok_action_Same (env_cons (s := RoF S_oxm_Same) snd_oxm_Same (env_cons (s := RoF S_bytes_Equal) snd_bytes_Equal (env_nil _))) fun args objs p v e => ?_
  unfold S_action_Same at e
  split at e
  · rename_i q a b c f h x v m d q' a' b' c' f' h' x' v' m' d'
    cases e
    refine ⟨rfl, fun hw ho hp => ?_⟩
    change List Int at v
    change List Int at m
    change List Int at d
    change List Int at v'
    change List Int at m'
    change List Int at d'
    clear hw ho
    repeat' (intro t ht; first | (cases t <;> first | (cases ht; done) | ((try simp only [bn_s] at ht); (try simp only [nd_s] at ht); (try (exfalso; first | contradiction | omega)))) | (refine castG_go ht ?_; clear ht) | (refine ht ?_ ?_ <;> clear ht) | (refine ht.1 ?_ ?_ <;> clear ht) | (refine ht ?_; clear ht))
    all_goals first
      | exact True.intro
      | (refine ⟨congrArg AV.bool ?_, rfl⟩; unfold sameA; simp_all; done)
      | trace_state
  · cases e
end Go.Eng
namespace Go.Eng
open Go.Proofs
set_option linter.unusedVariables false
set_option linter.unusedSimpArgs false
set_option maxRecDepth 100000
set_option maxHeartbeats 1000000
end Go.Eng
