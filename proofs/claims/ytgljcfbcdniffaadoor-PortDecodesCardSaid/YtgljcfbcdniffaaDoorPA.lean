/- Contracts of functions of the given program, told by plain Lean functions. No condition. -/
import Derived.Test.YtgljcfbcdniffaaDoorProg
import Derived.Test.YtgljcfbcdniffaaDoorESum
import Derived.KernelRfl
import Derived.Test.YtgljcfbcdniffaaDoorP9
namespace Go.Eng
open Go.Proofs
set_option linter.unusedVariables false
set_option linter.unusedSimpArgs false
set_option maxRecDepth 100000
set_option maxHeartbeats 1000000
theorem idxA_app {nm zs : List Int} (h : ∀ c ∈ nm, c ≠ 0) (i : Int) : idxA 0 (nm ++ 0 :: zs) i = i + nm.length := by
  induction nm generalizing i with
  | nil => show (if (0 : Int) = 0 then i else _) = _; rw [if_pos rfl]; simp
  | cons a l ih =>
    show (if a = 0 then i else idxA 0 (l ++ 0 :: zs) (i + 1)) = _
    rw [if_neg (h a (by simp)), ih (fun c hc => h c (by simp [hc])), List.length_cons]; omega
theorem nm_of {nm : List Int} (h : nameF nm = true) : nmK (nm ++ List.replicate (16 - nm.length) 0) = true ∧ nmS (nm ++ List.replicate (16 - nm.length) 0) = nm := by
  obtain ⟨h1, h2⟩ := nameF_t.1 h
  obtain ⟨k, hk⟩ : ∃ k, 16 - nm.length = k + 1 := ⟨15 - nm.length, by omega⟩
  rw [hk, List.replicate_succ]
  have hi := idxA_app (nm := nm) (zs := List.replicate k 0) (fun c hc e => by have := okc_t.1 (h2 c hc); omega) 0
  have hz : zi (nm ++ 0 :: List.replicate k 0) = nm.length := by unfold zi; rw [hi, if_pos (by omega)]; omega
  have hd : (nm ++ 0 :: List.replicate k 0).drop nm.length = 0 :: List.replicate k 0 := List.drop_left
  have ht : (nm ++ 0 :: List.replicate k 0).take nm.length = nm := List.take_left
  have h0 : zeroL (0 :: List.replicate k 0) = true := zeroL_rep (k + 1)
  unfold nmK nmS
  rw [hz, hd, ht, h0, h, decide_eq_true h1]
  exact ⟨rfl, rfl⟩
/-- What was written of one port is read. -/
theorem rp_of {p : PV} {x : List Int} (rest : List Int) (h : pbF p = some x) (hw : pwf p) : rpE (x ++ rest) = 0 ∧ rpV (x ++ rest) = p ∧ x.length = 64 := by
  obtain ⟨k1, k2, k3, k4, k5, k6, rfl⟩ := pbF_some h hw
  generalize hA : putB pw1 [p.1, p.2.1] = A at *
  generalize hB : putB pw2 (n8 p.2.2.2.1) = B at *
  unfold poOk at k3
  simp only [Bool.and_eq_true, Bool.not_eq_true', decide_eq_false_iff_not] at k3
  have hN := nm_of k3.2
  have hNl : (p.2.2.1 ++ List.replicate (16 - p.2.2.1.length) (0 : Int)).length = 16 := by rw [List.length_append, List.length_replicate]; omega
  generalize p.2.2.1 ++ List.replicate (16 - p.2.2.1.length) (0 : Int) = N at *
  have f1 : getF pw1 (A ++ N ++ B ++ rest) = ([p.1, p.2.1], 0) := by
    rw [List.append_assoc, List.append_assoc, ← hA]; exact (putF_getF _ hw.1 k1).1
  have e2 : (A ++ N ++ B ++ rest).drop 32 = B ++ rest := by
    rw [List.append_assoc]; exact List.drop_left' (by rw [List.length_append]; omega)
  have f2 : getF pw2 ((A ++ N ++ B ++ rest).drop 32) = (n8 p.2.2.2.1, 0) := by
    rw [e2, ← hB]; exact (putF_getF _ hw.2 k2).1
  have e3 : ((A ++ N ++ B ++ rest).drop 16).take 16 = N := by
    rw [List.append_assoc, List.append_assoc, List.drop_left' k5]; exact List.take_left' hNl
  have g1 : getL pw1 (A ++ N ++ B ++ rest) = [p.1, p.2.1] := congrArg Prod.fst f1
  have g2 : getK pw1 (A ++ N ++ B ++ rest) = 0 := congrArg Prod.snd f1
  have g3 : getL pw2 ((A ++ N ++ B ++ rest).drop 32) = n8 p.2.2.2.1 := congrArg Prod.fst f2
  refine ⟨?_, ?_, ?_⟩
  · unfold rpE; rw [g1, g2, e3, hN.1, if_neg (by decide)]; exact if_neg k3.1
  · unfold rpV; rw [g1, g3, e3, hN.2]; rfl
  · rw [List.length_append, List.length_append]; omega
theorem dG_of : ∀ (l : List PV) (b r : List Int), (∀ p ∈ l, pwf p) → pbA l b = some r → ∃ x, r = b ++ x ∧ dG x = (l, 0, (x.length : Int))
  | [], b, r, _, h => by simp only [pbA, Option.some.injEq] at h; subst h; exact ⟨[], by simp, by rw [dG_nil rfl]; rfl⟩
  | p :: l, b, r, hw, h => by
    cases hx : pbF p with
    | none => simp only [pbA, hx] at h; cases h
    | some x =>
      simp only [pbA, hx] at h
      obtain ⟨y, rfl, hy⟩ := dG_of l (b ++ x) r (fun q hq => hw q (by simp [hq])) h
      obtain ⟨h1, h2, h3⟩ := rp_of y hx (hw p (by simp))
      refine ⟨x ++ y, by rw [List.append_assoc], ?_⟩
      have hl : 64 ≤ (x ++ y).length := by rw [List.length_append]; omega
      rw [dG_fine hl h1, h2, List.drop_left' h3, hy, List.length_append, h3]
      simp only [Prod.mk.injEq, true_and]; omega
theorem dG_len (y : List Int) : (dG y).2.1 = 0 → (dG y).2.2 = y.length ∧ y.length = 64 * (dG y).1.length := by
  induction hn : y.length using Nat.strongRecOn generalizing y with
  | ind n ih =>
    intro h
    by_cases h0 : y.length = 0
    · rw [dG_nil h0] at h ⊢; exact ⟨by dsimp only; omega, by dsimp only [List.length_nil]; omega⟩
    · by_cases h1 : y.length < 64
      · rw [dG_short h0 h1] at h; cases h
      · by_cases h2 : t5E (y.take 64) = 0
        · rw [dG_ok h1 h2] at h ⊢
          have hl : (y.drop 64).length = y.length - 64 := List.length_drop
          obtain ⟨i1, i2⟩ := ih (y.drop 64).length (by omega) (y.drop 64) rfl h
          dsimp only
          rw [List.length_cons]
          omega
        · rw [dG_bad h1 h2] at h; exact absurd h h2
/-- What was read is what would be written. -/
theorem pb_rp {y : List Int} (h : 64 ≤ y.length) (hb : ∀ x ∈ y, 0 ≤ x ∧ x ≤ 255) (hr : rpE y = 0) : pbF (rpV y) = some (y.take 64) := by
  have hK : getK pw1 y = 0 := Classical.byContradiction fun hk => by unfold rpE at hr; rw [if_pos hk] at hr; cases hr
  unfold rpE at hr
  rw [if_neg (not_not_intro hK)] at hr
  have h0 : ¬ (getL pw1 y).getD 0 0 = 0 := fun e => by rw [if_pos e] at hr; cases hr
  rw [if_neg h0] at hr
  have hn : nmK ((y.drop 16).take 16) = true := Classical.byContradiction fun e => by rw [if_neg e] at hr; cases hr
  have f1 := getF_w1 (y := y) (by omega)
  have z : z1 y = true := by
    cases z : z1 y with
    | true => rfl
    | false => rw [z] at f1; have : getK pw1 y = 2 := congrArg Prod.snd f1; omega
  rw [z, if_pos rfl] at f1
  have g1 : getL pw1 y = [numL (y.take 4), numL ((y.drop 8).take 6)] := congrArg Prod.fst f1
  have f2 := getF_w2 (y := y.drop 32) (by rw [List.length_drop]; omega)
  have g2 : getL pw2 (y.drop 32) = [numL ((y.drop 32).take 4), numL (((y.drop 32).drop 4).take 4), numL (((y.drop 32).drop 8).take 4), numL (((y.drop 32).drop 12).take 4), numL (((y.drop 32).drop 16).take 4), numL (((y.drop 32).drop 20).take 4), numL (((y.drop 32).drop 24).take 4), numL (((y.drop 32).drop 28).take 4)] := congrArg Prod.fst f2
  obtain ⟨p1, p2, _⟩ := getF_putF hb f1
  obtain ⟨q1, q2, _⟩ := getF_putF (fun x hx => hb x (List.mem_of_mem_drop hx)) f2
  have s1 : (sizeW pw1).toNat = 16 := by decide
  have s2 : (sizeW pw2).toNat = 32 := by decide
  rw [s1] at p2; rw [s2] at q2
  have hbl : ((y.drop 16).take 16).length = 16 := by rw [List.length_take, List.length_drop]; omega
  have hname : nameF (nmS ((y.drop 16).take 16)) = true ∧ nmS ((y.drop 16).take 16) ++ List.replicate (16 - (nmS ((y.drop 16).take 16)).length) 0 = (y.drop 16).take 16 := by
    generalize (y.drop 16).take 16 = nb at *
    have hzl := zi_le nb
    unfold nmK at hn
    simp only [Bool.and_eq_true, decide_eq_true_eq] at hn
    have hS : nmS nb = nb.take (zi nb) := by unfold nmS; rw [if_pos hn.1]
    have hd := zeroL_eq hn.1
    rw [List.length_drop, hbl] at hd
    rw [hS]
    refine ⟨hn.2.2, ?_⟩
    rw [List.length_take, hbl, Nat.min_eq_left (by omega), ← hd, List.take_append_drop]
  have a1 : (rpV y).1 = numL (y.take 4) := by unfold rpV; rw [g1]; rfl
  have a2 : (rpV y).2.1 = numL ((y.drop 8).take 6) := by unfold rpV; rw [g1]; rfl
  have a3 : (rpV y).2.2.1 = nmS ((y.drop 16).take 16) := rfl
  have a4 : n8 (rpV y).2.2.2.1 = [numL ((y.drop 32).take 4), numL (((y.drop 32).drop 4).take 4), numL (((y.drop 32).drop 8).take 4), numL (((y.drop 32).drop 12).take 4), numL (((y.drop 32).drop 16).take 4), numL (((y.drop 32).drop 20).take 4), numL (((y.drop 32).drop 24).take 4), numL (((y.drop 32).drop 28).take 4)] := by unfold rpV; rw [g2]; rfl
  have h0' : ¬ numL (y.take 4) = 0 := by rw [g1] at h0; exact h0
  unfold pbF
  rw [a1, a2, a3, a4, if_pos ⟨p1, q1, by unfold poOk; rw [hname.1, decide_eq_false h0']; rfl⟩, p2, q2, hname.2]
  congr 1
  have t1 : y.take 64 = y.take 32 ++ (y.drop 32).take 32 := by rw [← List.take_add]
  have t2 : y.take 32 = y.take 16 ++ (y.drop 16).take 16 := by rw [← List.take_add]
  rw [t1, t2]
theorem pbA_acc : ∀ (l : List PV) (b : List Int), pbA l b = (pbA l []).map (b ++ ·)
  | [], b => by simp [pbA]
  | p :: l, b => by
    cases hx : pbF p with
    | none => simp only [pbA, hx, Option.map_none]
    | some x =>
      simp only [pbA, hx]
      rw [pbA_acc l (b ++ x), pbA_acc l ([] ++ x), Option.map_map]
      congr 1; funext z; simp
theorem pbA_dG (y : List Int) : (∀ x ∈ y, 0 ≤ x ∧ x ≤ 255) → (dG y).2.1 = 0 → pbA (dG y).1 [] = some y := by
  induction hn : y.length using Nat.strongRecOn generalizing y with
  | ind n ih =>
    intro hb h
    by_cases h0 : y.length = 0
    · have : y = [] := List.eq_nil_of_length_eq_zero h0
      subst this; rw [dG_nil rfl]; rfl
    · by_cases h1 : y.length < 64
      · rw [dG_short h0 h1] at h; cases h
      · have hr : rpE y = 0 := by
          by_cases h2 : t5E (y.take 64) = 0
          · exact (tk_eq (by omega)).1.symm.trans h2
          · rw [dG_bad h1 h2] at h; exact absurd h h2
        rw [dG_fine (by omega) hr] at h ⊢
        have hl : (y.drop 64).length = y.length - 64 := List.length_drop
        have i := ih (y.drop 64).length (by omega) (y.drop 64) rfl (fun x hx => hb x (List.mem_of_mem_drop hx)) h
        simp only [pbA, pb_rp (by omega) hb hr]
        rw [pbA_acc, List.nil_append, i]
        show some (y.take 64 ++ y.drop 64) = _
        rw [List.take_append_drop]
theorem num_n64 {b : List Int} {a n : Nat} (hb : ∀ x ∈ b, 0 ≤ x ∧ x ≤ 255) (hn : n ≤ 8) : n64 (numL ((b.drop a).take n)) := by
  have h := numL_le ((b.drop a).take n) fun x hx => hb x (List.mem_of_mem_drop (List.mem_of_mem_take hx))
  have hl : ((b.drop a).take n).length ≤ 8 := by rw [List.length_take]; omega
  have hp := pow256 _ hl
  exact ⟨h.1, by omega⟩
theorem rpV_wf {y : List Int} (h : 64 ≤ y.length) (hb : ∀ x ∈ y, 0 ≤ x ∧ x ≤ 255) (hK : getK pw1 y = 0) : pwf (rpV y) := by
  have f1 := getF_w1 (y := y) (by omega)
  have z : z1 y = true := by
    cases z : z1 y with
    | true => rfl
    | false => rw [z] at f1; have : getK pw1 y = 2 := congrArg Prod.snd f1; omega
  rw [z, if_pos rfl] at f1
  have g1 : getL pw1 y = [numL (y.take 4), numL ((y.drop 8).take 6)] := congrArg Prod.fst f1
  have f2 := getF_w2 (y := y.drop 32) (by rw [List.length_drop]; omega)
  have g2 : getL pw2 (y.drop 32) = [numL ((y.drop 32).take 4), numL (((y.drop 32).drop 4).take 4), numL (((y.drop 32).drop 8).take 4), numL (((y.drop 32).drop 12).take 4), numL (((y.drop 32).drop 16).take 4), numL (((y.drop 32).drop 20).take 4), numL (((y.drop 32).drop 24).take 4), numL (((y.drop 32).drop 28).take 4)] := congrArg Prod.fst f2
  have hd : ∀ x ∈ y.drop 32, 0 ≤ x ∧ x ≤ 255 := fun x hx => hb x (List.mem_of_mem_drop hx)
  have e0 : y.take 4 = (y.drop 0).take 4 := rfl
  have e1 : (y.drop 32).take 4 = ((y.drop 32).drop 0).take 4 := rfl
  constructor
  · intro x hx
    unfold rpV at hx; rw [g1] at hx
    simp only [List.getD_cons_zero, List.getD_cons_succ, List.mem_cons, List.not_mem_nil, or_false] at hx
    rcases hx with rfl | rfl
    · rw [e0]; exact num_n64 hb (by decide)
    · exact num_n64 hb (by decide)
  · intro x hx
    unfold rpV n8 at hx; rw [g2] at hx
    simp only [List.getD_cons_zero, List.getD_cons_succ, List.mem_cons, List.not_mem_nil, or_false] at hx
    rcases hx with rfl | rfl | rfl | rfl | rfl | rfl | rfl | rfl
    · rw [e1]; exact num_n64 hd (by decide)
    all_goals exact num_n64 hd (by decide)
theorem dG_wf (y : List Int) : (∀ x ∈ y, 0 ≤ x ∧ x ≤ 255) → ∀ p ∈ (dG y).1, pwf p := by
  induction hn : y.length using Nat.strongRecOn generalizing y with
  | ind n ih =>
    intro hb p hp
    by_cases h0 : y.length = 0
    · rw [dG_nil h0] at hp; cases hp
    · by_cases h1 : y.length < 64
      · rw [dG_short h0 h1] at hp; cases hp
      · by_cases h2 : t5E (y.take 64) = 0
        · have hr : rpE y = 0 := (tk_eq (by omega)).1.symm.trans h2
          rw [dG_fine (by omega) hr] at hp
          have hl : (y.drop 64).length = y.length - 64 := List.length_drop
          rcases List.mem_cons.1 hp with rfl | hp
          · exact rpV_wf (by omega) hb (Classical.byContradiction fun hk => by unfold rpE at hr; rw [if_pos hk] at hr; cases hr)
          · exact ih (y.drop 64).length (by omega) (y.drop 64) rfl (fun x hx => hb x (List.mem_of_mem_drop hx)) p hp
        · rw [dG_bad h1 h2] at hp; cases hp
end Go.Eng
