/- Contracts of functions of the given program, told by plain Lean functions. No condition. -/
import Derived.Test.YtgljcfbcdniffaaDoorProg
import Derived.Test.YtgljcfbcdniffaaDoorESum
import Derived.KernelRfl
import Derived.Test.YtgljcfbcdniffaaDoorP6
namespace Go.Eng
open Go.Proofs
set_option linter.unusedVariables false
set_option linter.unusedSimpArgs false
set_option maxRecDepth 100000
set_option maxHeartbeats 1000000
/-- What the document's answer says of one port's bytes. -/
def z1 (y : List Int) : Bool := zeroL ((y.drop 4).take 4) && zeroL ((y.drop 14).take 2)
def rpE (y : List Int) : Int := if getK pw1 y ≠ 0 then 269 else if (getL pw1 y).getD 0 0 = 0 then 268 else if nmK ((y.drop 16).take 16) = true then 0 else 269
def rpV (y : List Int) : PV := ((getL pw1 y).getD 0 0, (getL pw1 y).getD 1 0, nmS ((y.drop 16).take 16), ((getL pw2 (y.drop 32)).getD 0 0, (getL pw2 (y.drop 32)).getD 1 0, (getL pw2 (y.drop 32)).getD 2 0, (getL pw2 (y.drop 32)).getD 3 0, (getL pw2 (y.drop 32)).getD 4 0, (getL pw2 (y.drop 32)).getD 5 0, (getL pw2 (y.drop 32)).getD 6 0, (getL pw2 (y.drop 32)).getD 7 0, ()), ())
theorem getF_w1 {y : List Int} (h : 16 ≤ y.length) : getF pw1 y = if z1 y = true then ([numL (y.take 4), numL ((y.drop 8).take 6)], 0) else ([], 2) := by
  have hr : rightF pw1 = true := by decide
  unfold getF
  rw [if_pos hr]
  have a4 : absI 4 = 4 := by decide
  have a4' : absI (-4) = 4 := by decide
  have a6 : absI 6 = 6 := by decide
  have a2 : absI (-2) = 2 := by decide
  unfold pw1
  simp only [getA, a4, a4', a6, a2, List.length_drop]
  rw [if_neg (by omega), if_pos (by decide), if_neg (by show ¬ ((y.length - 4 : Nat) : Int) < 4; omega), if_neg (by decide)]
  have d1 : (y.drop (Int.toNat 4)).take (Int.toNat 4) = (y.drop 4).take 4 := rfl
  have d2 : (y.drop (Int.toNat 4)).drop (Int.toNat 4) = y.drop 8 := by rw [List.drop_drop]; rfl
  have d3 : ((y.drop 8).drop (Int.toNat 6)) = y.drop 14 := by rw [List.drop_drop]; rfl
  rw [d1, d2]
  cases h1 : zeroL ((y.drop 4).take 4) with
  | false =>
    rw [if_neg (by decide)]
    unfold z1; rw [h1]; rfl
  | true =>
    rw [if_pos rfl, if_neg (by show ¬ ((y.length - 4 - 4 : Nat) : Int) < 6; omega), if_pos (by decide), if_neg (by show ¬ ((y.length - 4 - 4 - 6 : Nat) : Int) < 2; omega), if_neg (by decide), d3]
    have d4 : (y.drop 14).take (Int.toNat 2) = (y.drop 14).take 2 := rfl
    rw [d4]
    cases h2 : zeroL ((y.drop 14).take 2) with
    | false => rw [if_neg (by decide)]; unfold z1; rw [h1, h2]; rfl
    | true => rw [if_pos rfl]; unfold z1; rw [h1, h2]; rfl
theorem getF_w2 {y : List Int} (h : 32 ≤ y.length) : getF pw2 y = ([numL (y.take 4), numL ((y.drop 4).take 4), numL ((y.drop 8).take 4), numL ((y.drop 12).take 4), numL ((y.drop 16).take 4), numL ((y.drop 20).take 4), numL ((y.drop 24).take 4), numL ((y.drop 28).take 4)], 0) := by
  have hr : rightF pw2 = true := by decide
  unfold getF
  rw [if_pos hr]
  have a4 : absI 4 = 4 := by decide
  have t4 : Int.toNat 4 = 4 := rfl
  have p4 : (0 : Int) < 4 := by decide
  unfold pw2
  simp only [getA, a4, List.length_drop, t4, if_pos p4, List.drop_drop]
  rw [if_neg (by omega), if_neg (by omega), if_neg (by omega), if_neg (by omega), if_neg (by omega), if_neg (by omega), if_neg (by omega), if_neg (by omega)]
  rfl
theorem sub_take {y : List Int} {a n m : Nat} (h : a + n ≤ m) : ((y.take m).drop a).take n = (y.drop a).take n := by
  rw [List.drop_take, List.take_take, Nat.min_eq_left (by omega)]
theorem sub_take0 {y : List Int} {n m : Nat} (h : n ≤ m) : (y.take m).take n = y.take n := by
  rw [List.take_take, Nat.min_eq_left h]
theorem w1_take {y : List Int} (h : 64 ≤ y.length) : getF pw1 (y.take 64) = getF pw1 y := by
  rw [getF_w1 (by rw [List.length_take]; omega), getF_w1 (by omega)]
  unfold z1
  rw [sub_take (by decide), sub_take (by decide), sub_take (by decide), sub_take0 (by decide)]
theorem w2_take {y : List Int} (h : 64 ≤ y.length) : getF pw2 ((y.take 64).drop 32) = getF pw2 (y.drop 32) := by
  have e : (y.take 64).drop 32 = (y.drop 32).take 32 := by rw [List.drop_take]
  rw [e, getF_w2 (by rw [List.length_take, List.length_drop]; omega), getF_w2 (by rw [List.length_drop]; omega)]
  rw [sub_take (by decide), sub_take (by decide), sub_take (by decide), sub_take (by decide), sub_take (by decide), sub_take (by decide), sub_take (by decide), sub_take0 (by decide)]
theorem nm_eq {b : List Int} (h : b.length = 16) : nmK b = (ctK b 0 && nameF (ctB b 0) && zeroL (ctR b 0)) ∧ (nmK b = true → nmS b = ctB b 0) := by
  have hle := idxA_le (c := 0) b 0 (Int.le_refl _)
  by_cases hi : 0 ≤ idxA 0 b 0
  · have hz : zi b = (idxA 0 b 0).toNat := if_pos hi
    have hlt : zi b < 16 := by omega
    have h0 : b.getD (zi b) 0 = 0 := by
      have : ∀ (l : List Int) (i : Int), 0 ≤ i → 0 ≤ idxA 0 l i → i ≤ idxA 0 l i ∧ l.getD (idxA 0 l i - i).toNat 0 = 0 := by
        intro l
        induction l with
        | nil => intro i _ h; exact absurd h (by unfold idxA; decide)
        | cons a l ih =>
          intro i h1 h2
          unfold idxA at h2 ⊢
          split
          · rename_i ha; rw [Int.sub_self]; exact ⟨Int.le_refl _, ha⟩
          · rename_i ha
            rw [if_neg ha] at h2
            obtain ⟨h3, h4⟩ := ih (i + 1) (by omega) h2
            refine ⟨by omega, ?_⟩
            have : (idxA 0 l (i + 1) - i).toNat = (idxA 0 l (i + 1) - (i + 1)).toNat + 1 := by omega
            rw [this, List.getD_cons_succ]; exact h4
      have := (this b 0 (Int.le_refl _) hi).2
      rwa [Int.sub_zero, ← hz] at this
    have hB : ctB b 0 = b.take (zi b) := by unfold ctB; rw [if_pos hi, hz]
    have hR : ctR b 0 = b.drop (zi b + 1) := by unfold ctR; rw [if_pos hi, hz]; congr 1; omega
    have hd : zeroL (b.drop (zi b)) = zeroL (b.drop (zi b + 1)) := by
      rw [drop_step (show zi b < b.length by omega) 0, h0]; unfold zeroL; rw [List.all_cons]; rfl
    have hK : ctK b 0 = true := decide_eq_true hi
    unfold nmK nmS
    rw [hK, hB, hR, hd, decide_eq_true hlt]
    refine ⟨by simp only [Bool.true_and, Bool.and_comm], fun hh => ?_⟩
    simp only [Bool.true_and, Bool.and_eq_true] at hh
    rw [if_pos hh.1]
  · have hz : zi b = 16 := by unfold zi; rw [if_neg hi, h]
    have hK : ctK b 0 = false := decide_eq_false hi
    unfold nmK
    rw [hK, hz]
    refine ⟨by simp, fun hh => by simp at hh⟩
theorem t3E_eq {x : List Int} (h : x.length = 64) (hp : 0 ≤ t1P x ∧ t1P x ≤ 16) : t3E x = t2E x := by
  unfold t3E takeE; rw [if_neg (by decide), if_neg (by rw [h]; omega)]
theorem t5E_ne {x : List Int} (h : x.length = 64) (hp : 0 ≤ t1P x ∧ t1P x ≤ 16) (he : t2E x ≠ 0) : t5E x = t2E x := by
  have h4 : t4E x = t2E x := by
    unfold t4E; rw [t3E_eq h hp]; split
    · exact if_neg he
    · rfl
  unfold t5E curE; rw [h4, if_neg he]
theorem tk_eq {y : List Int} (h : 64 ≤ y.length) : t5E (y.take 64) = rpE y ∧ (rpE y = 0 → tV (y.take 64) = rpV y) := by
  have hx : (y.take 64).length = 64 := by rw [List.length_take]; omega
  have hF := w1_take h
  have hF2 := w2_take h
  have hL : getL pw1 (y.take 64) = getL pw1 y := congrArg Prod.fst hF
  have hK : getK pw1 (y.take 64) = getK pw1 y := congrArg Prod.snd hF
  have hf := getF_w1 (y := y) (by omega)
  have c1 : t1L (y.take 64) = getL pw1 y ++ [0, 0] := by unfold t1L curL; rw [if_pos rfl, ← hL]; rfl
  have c2 : t1E (y.take 64) = if getK pw1 y = 1 then 263 else if getK pw1 y = 2 then 269 else 0 := by unfold t1E curE; rw [if_pos rfl, ← hK]; rfl
  have c3 : t1P (y.take 64) = if getK pw1 y = 1 then 0 else if getK pw1 y = 2 then 0 else 0 + sizeW pw1 := by unfold t1P curP; rw [if_pos rfl, ← hK]; rfl
  have hz : sizeW pw1 = 16 := by decide
  cases z : z1 y with
  | false =>
    rw [z] at hf
    have k1 : getL pw1 y = [] := congrArg Prod.fst hf
    have k2 : getK pw1 y = 2 := congrArg Prod.snd hf
    rw [k1] at c1; rw [k2] at c2 c3
    have e2 : t2E (y.take 64) = 269 := by unfold t2E; rw [c1, c2]; rfl
    have e5 := t5E_ne hx (by rw [c3]; decide) (by rw [e2]; decide)
    have r : rpE y = 269 := by unfold rpE; rw [k2]; rfl
    rw [e5, e2, r]; exact ⟨rfl, fun h => by cases h⟩
  | true =>
    rw [z] at hf
    have k1 : getL pw1 y = [numL (y.take 4), numL ((y.drop 8).take 6)] := congrArg Prod.fst hf
    have k2 : getK pw1 y = 0 := congrArg Prod.snd hf
    rw [k1] at c1; rw [k2] at c2 c3
    have e1 : t1E (y.take 64) = 0 := c2
    have p1 : t1P (y.take 64) = 16 := by rw [c3, hz]; rfl
    by_cases h0 : numL (y.take 4) = 0
    · have e2 : t2E (y.take 64) = 268 := by unfold t2E; rw [c1, e1]; exact if_pos h0
      have e5 := t5E_ne hx (by rw [p1]; decide) (by rw [e2]; decide)
      have r : rpE y = 268 := by unfold rpE; rw [k1, k2, if_neg (by decide)]; exact if_pos h0
      rw [e5, e2, r]; exact ⟨rfl, fun h => by cases h⟩
    · have e2 : t2E (y.take 64) = 0 := by unfold t2E; rw [c1, e1]; exact if_neg h0
      have e3 : t3E (y.take 64) = 0 := (t3E_eq hx (by rw [p1]; decide)).trans e2
      have n3 : t3N (y.take 64) = (y.drop 16).take 16 := by
        have : t3N (y.take 64) = if t3E (y.take 64) = 0 then ((y.take 64).take (t1P (y.take 64) + 16).toNat).drop (t1P (y.take 64)).toNat else [] := rfl
        rw [this, if_pos e3, p1]
        show ((y.take 64).take 32).drop 16 = _
        rw [List.take_take, Nat.min_eq_left (by decide), List.drop_take]
      have p3 : t3P (y.take 64) = 32 := by
        have : t3P (y.take 64) = if t3E (y.take 64) = 0 then t1P (y.take 64) + 16 else t1P (y.take 64) := rfl
        rw [this, if_pos e3, p1]; rfl
      have hb : ((y.drop 16).take 16).length = 16 := by rw [List.length_take, List.length_drop]; omega
      obtain ⟨m1, m2⟩ := nm_eq hb
      have hO : t4O (y.take 64) = !nmK ((y.drop 16).take 16) := by
        unfold t4O; rw [n3, m1]
        have tz := trim_zero (ctR ((y.drop 16).take 16) 0)
        rw [← tz]
        cases ctK ((y.drop 16).take 16) 0 <;> cases nameF (ctB ((y.drop 16).take 16) 0) <;> simp [Nat.pos_iff_ne_zero]
      have r : rpE y = if nmK ((y.drop 16).take 16) = true then 0 else 269 := by unfold rpE; rw [k1, k2, if_neg (by decide)]; exact if_neg h0
      cases hn : nmK ((y.drop 16).take 16) with
      | false =>
        rw [hn] at hO r
        have e4 : t4E (y.take 64) = 269 := by unfold t4E; rw [hO, e3]; rfl
        have e5 : t5E (y.take 64) = 269 := by unfold t5E curE; rw [e4]; rfl
        rw [e5, r]; exact ⟨rfl, fun h => by cases h⟩
      | true =>
        rw [hn] at hO r
        have e4 : t4E (y.take 64) = 0 := by unfold t4E; rw [hO, e3]; rfl
        have f2 := getF_w2 (y := y.drop 32) (by rw [List.length_drop]; omega)
        have L2 : t5L (y.take 64) = getL pw2 (y.drop 32) := by
          unfold t5L curL; rw [e4, if_pos rfl, p3]; exact congrArg Prod.fst hF2
        have K2 : getK pw2 ((y.take 64).drop 32) = 0 := (congrArg Prod.snd hF2).trans (congrArg Prod.snd f2)
        have e5 : t5E (y.take 64) = 0 := by
          unfold t5E curE; rw [e4, if_pos rfl, p3]
          show (if getK pw2 ((y.take 64).drop 32) = 1 then _ else if getK pw2 ((y.take 64).drop 32) = 2 then _ else _) = _
          rw [K2]; rfl
        rw [e5, r]
        refine ⟨rfl, fun _ => ?_⟩
        have k3 : getL pw2 (y.drop 32) = [numL ((y.drop 32).take 4), numL (((y.drop 32).drop 4).take 4), numL (((y.drop 32).drop 8).take 4), numL (((y.drop 32).drop 12).take 4), numL (((y.drop 32).drop 16).take 4), numL (((y.drop 32).drop 20).take 4), numL (((y.drop 32).drop 24).take 4), numL (((y.drop 32).drop 28).take 4)] := congrArg Prod.fst f2
        unfold tV rpV
        rw [L2, c1, k1, n3, m2 hn, k3]; rfl
theorem dG_err {b y : List Int} {e : Int} (h : 64 ≤ y.length) (hr : rpE y = e) (he : e ≠ 0) (j : (dG b).2.1 = (dG y).2.1) : dL b = [] ∧ dE b = e := by
  have ht5 := (tk_eq h).1
  rw [hr] at ht5
  have hd : dG y = ([], t5E (y.take 64), 64) := dG_bad (by omega) (by rw [ht5]; exact he)
  rw [hd] at j
  have d2 : dE b = e := j.trans ht5
  refine ⟨?_, d2⟩
  unfold dL; rw [show (dG b).2.1 = e from d2, if_neg he]
theorem dG_fine {y : List Int} (h : 64 ≤ y.length) (hr : rpE y = 0) : dG y = (rpV y :: (dG (y.drop 64)).1, (dG (y.drop 64)).2.1, 64 + (dG (y.drop 64)).2.2) := by
  obtain ⟨h1, h2⟩ := tk_eq h
  rw [dG_ok (by omega) (h1.trans hr), h2 hr]
end Go.Eng
