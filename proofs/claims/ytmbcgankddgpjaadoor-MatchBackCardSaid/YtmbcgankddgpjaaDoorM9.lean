/- Contracts of functions of the given program, told by plain Lean functions. No condition. -/
import Derived.Test.YtmbcgankddgpjaaDoorProg
import Derived.Test.YtmbcgankddgpjaaDoorEArg
import Derived.KernelRfl
import Derived.Test.YtmbcgankddgpjaaDoorM8
namespace Go.Eng
open Go.Proofs
set_option linter.unusedVariables false
set_option linter.unusedSimpArgs false
set_option maxRecDepth 100000
set_option maxHeartbeats 1000000
theorem ckS_cons (pre : List OV) (o : OV) (r : List OV) : ckS pre (o :: r) = if pre.any (fun x => alO x o) = true then (((pre.length : Nat) : Int), 1035) else if metO pre o.1 o.2.1 = true then ckS (pre ++ [o]) r else (((pre.length : Nat) : Int), 1034) := rfl
theorem ckS_nil (pre : List OV) : ckS pre [] = (0, 0) := rfl
theorem ckS_app : ∀ (r pre s : List OV), ckS pre (r ++ s) = if (ckS pre r).2 = 0 then ckS (pre ++ r) s else ckS pre r
  | [], pre, s => by
    rw [List.nil_append, List.append_nil, ckS_nil, if_pos rfl]
  | o :: r, pre, s => by
    rw [List.cons_append, ckS_cons, ckS_cons pre o r]
    by_cases h1 : pre.any (fun x => alO x o) = true
    · simp only [if_pos h1]; rw [if_neg (by decide)]
    · simp only [if_neg h1]
      by_cases h2 : metO pre o.1 o.2.1 = true
      · simp only [if_pos h2]
        rw [ckS_app r (pre ++ [o]) s, List.append_assoc, List.singleton_append]
      · simp only [if_neg h2]; rw [if_neg (by decide)]
theorem ckS_pre {r s : List OV} (h : (ckS [] (r ++ s)).2 = 0) : (ckS [] r).2 = 0 := by
  rw [ckS_app] at h
  by_cases h1 : (ckS [] r).2 = 0
  · exact h1
  · rw [if_neg h1] at h; exact h
theorem mlG_ok2 {acc : List OV} {y : List Int} (h : ¬ y.length = 0) (h1 : decE y = 0) (h2 : (ckS [] (acc ++ [vO y])).2 = 0) (hn : 1 ≤ decN y) : mlG acc y = mlG (acc ++ [vO y]) (y.drop (decN y).toNat) := by
  rw [mlG, if_neg h, if_neg (not_not_intro h1), if_neg (not_not_intro h2), show max 1 (decN y).toNat = (decN y).toNat by omega]
theorem ecO_ge (o : OV) : 4 ≤ (ecO o).length := by
  have := bytesN_len (n := o.1) (w := 2) (by decide)
  unfold ecO refB; simp only [List.length_append, List.length_cons]; omega
theorem boO_cons (o : OV) (r : List OV) : boO (o :: r) = ecO o ++ boO r := List.flatMap_cons
theorem mlG_enc : ∀ (r acc : List OV), r.all rgO = true → (∀ o ∈ r, 0 ≤ o.2.2.2.1) → (ckS [] (acc ++ r)).2 = 0 → mlG acc (boO r) = (acc ++ r, 0)
  | [], acc, _, _, _ => by rw [mlG_nil (by rfl), List.append_nil]
  | o :: r, acc, h, hx, hc => by
    rw [List.all_cons, Bool.and_eq_true] at h
    have hr : rightO o.1 o.2.1 o.2.2.1 o.2.2.2.1 o.2.2.2.2.1 o.2.2.2.2.2.1 = true := h.1
    obtain ⟨D1, D2, D3, D4, D5, D6, D7, D8⟩ := dec_enc (b := boO r) hr (hx o (List.mem_cons_self ..))
    have hge := ecO_ge o
    have hv : vO (ecO o ++ boO r) = o := by
      unfold vO ecO; rw [D2, D3, D4, D5, D6, D7]
    have hE : decE (ecO o ++ boO r) = 0 := D1
    have hN : decN (ecO o ++ boO r) = (ecO o).length := D8
    have ha : acc ++ o :: r = (acc ++ [o]) ++ r := by rw [List.append_assoc]; rfl
    have hc1 : (ckS [] (acc ++ [o])).2 = 0 := by rw [ha] at hc; exact ckS_pre hc
    rw [boO_cons, mlG_ok2 (by rw [List.length_append]; omega) hE (by rw [hv]; exact hc1) (by rw [hN]; omega), hv, hN, Int.toNat_natCast, List.drop_left]
    rw [mlG_enc r (acc ++ [o]) h.2 (fun o ho => hx o (List.mem_cons_of_mem _ ho)) (by rw [← ha]; exact hc), ← ha]
theorem mlG_dec : ∀ (n : Nat) (y : List Int) (acc l : List OV), y.length ≤ n → (∀ x ∈ y, 0 ≤ x ∧ x ≤ 255) → mlG acc y = (l, 0) → ∃ r, l = acc ++ r ∧ r.all rgO = true ∧ boO r = y ∧ ((ckS [] acc).2 = 0 → (ckS [] l).2 = 0)
  | 0, y, acc, l, hn, hb, h => by
    rw [mlG_nil (by omega)] at h
    cases h
    refine ⟨[], by rw [List.append_nil], rfl, ?_, fun h => h⟩
    rw [List.eq_nil_of_length_eq_zero (show y.length = 0 by omega)]; rfl
  | n + 1, y, acc, l, hn, hb, h => by
    by_cases h0 : y.length = 0
    · rw [mlG_nil h0] at h
      cases h
      refine ⟨[], by rw [List.append_nil], rfl, ?_, fun h => h⟩
      rw [List.eq_nil_of_length_eq_zero h0]; rfl
    · by_cases h1 : decE y = 0
      · by_cases h2 : (ckS [] (acc ++ [vO y])).2 = 0
        · obtain ⟨g1, g2⟩ := decN_ge hb h1
          rw [mlG_ok hb h0 h1 h2] at h
          obtain ⟨r, e1, e2, e3, e4⟩ := mlG_dec n (y.drop (decN y).toNat) (acc ++ [vO y]) l (by rw [List.length_drop]; omega) (fun x hx => hb x (List.mem_of_mem_drop hx)) h
          obtain ⟨f1, f2, _, _⟩ := enc_dec hb h1
          refine ⟨vO y :: r, ?_, ?_, ?_, fun _ => e4 h2⟩
          · rw [e1, List.append_assoc]; rfl
          · rw [List.all_cons, e2, Bool.and_true]; exact f1
          · rw [boO_cons, e3]
            have : ecO (vO y) = y.take (decN y).toNat := f2
            rw [this, List.take_append_drop]
        · rw [mlG_ck h0 h1 h2] at h
          exact absurd (congrArg Prod.snd h) h2
      · rw [mlG_bad h0 h1] at h
        exact absurd (congrArg Prod.snd h) h1
theorem boO_ge : ∀ (l : List OV), 4 * l.length ≤ (boO l).length
  | [] => Nat.zero_le _
  | o :: r => by
    have := boO_ge r
    have := ecO_ge o
    rw [boO_cons, List.length_append, List.length_cons]; omega
theorem rg_ok {l : List OV} (h : rgM l = true) : okM l := by
  obtain ⟨h1, h2, h3, h4, h5⟩ := rgM_parts h
  refine ⟨⟨fun o ho => ?_⟩, ?_⟩
  · have := rgO_nums (List.all_eq_true.1 h1 o ho)
    exact ⟨by omega, by omega⟩
  · have := boO_ge l
    have : meN l = 4 + (boO l).length := rfl
    omega
theorem md_head {N : Int} {body rest : List Int} (hN : N = 4 + body.length) (hN2 : N ≤ 65535) :
    tT (bytesN 1 2 ++ bytesN N 2 ++ body ++ rest) = 1 ∧ tN (bytesN 1 2 ++ bytesN N 2 ++ body ++ rest) = N ∧ bd (bytesN 1 2 ++ bytesN N 2 ++ body ++ rest) = body ∧ (bytesN 1 2 ++ bytesN N 2 ++ body ++ rest).drop N.toNat = rest ∧ (bytesN 1 2 ++ bytesN N 2 ++ body ++ rest).length = 4 + body.length + rest.length := by
  have l2 : (bytesN 1 2).length = 2 := by have := bytesN_len (n := 1) (w := 2) (by decide); omega
  have l3 : (bytesN N 2).length = 2 := by have := bytesN_len (n := N) (w := 2) (by decide); omega
  have e1 : tT (bytesN 1 2 ++ bytesN N 2 ++ body ++ rest) = 1 := by
    unfold tT; rw [List.append_assoc, List.append_assoc, List.take_left' l2]; exact num2 (by decide)
  have e2 : tN (bytesN 1 2 ++ bytesN N 2 ++ body ++ rest) = N := by
    unfold tN; rw [List.append_assoc, List.append_assoc, List.drop_left' l2, List.take_left' l3]; exact num2 (by omega)
  have hl : (bytesN 1 2 ++ bytesN N 2 ++ body ++ rest).length = 4 + body.length + rest.length := by simp only [List.length_append]; omega
  refine ⟨e1, e2, ?_, ?_, hl⟩
  · unfold bd
    rw [e2, List.take_left' (by simp only [List.length_append]; omega)]
    exact List.drop_left' (by rw [List.length_append]; omega)
  · exact List.drop_left' (by simp only [List.length_append]; omega)
/-- What was encoded is decoded, whatever is behind. -/
theorem md_enc {l : List OV} {b : List Int} (h : rgM l = true) (hx : ∀ o ∈ l, 0 ≤ o.2.2.2.1) : mdE (meB l ++ b) = 0 ∧ mdL (meB l ++ b) = l ∧ mdN (meB l ++ b) = (meB l).length := by
  obtain ⟨h1, h2, h3, h4, h5⟩ := rgM_parts h
  have hz := pz_le (n := meN l) (by omega)
  have hml := meB_len l (by omega)
  have e : meB l ++ b = bytesN 1 2 ++ bytesN (meN l) 2 ++ boO l ++ (List.replicate (pz (meN l)).toNat 0 ++ b) := by unfold meB; simp only [List.append_assoc]
  obtain ⟨t1, t2, t3, t4, t5⟩ := md_head (N := meN l) (body := boO l) (rest := List.replicate (pz (meN l)).toNat 0 ++ b) rfl (by omega)
  rw [← e] at t1 t2 t3 t4 t5
  have hN : meN l = 4 + (boO l).length := rfl
  simp only [List.length_append, List.length_replicate] at t5
  have hm := mlG_enc l [] h1 hx h2
  rw [List.nil_append] at hm
  have hZ : mdZ (meB l ++ b) = true := by
    unfold mdZ; rw [t2, t4, List.take_left' List.length_replicate]; exact zeroL_rep _
  have hE : mdE (meB l ++ b) = 0 := by
    rw [md_in (by rw [List.length_append]; omega) t1 (by rw [t2, List.length_append]; omega), t3, hm, hZ]; rfl
  refine ⟨hE, ?_, ?_⟩
  · unfold mdL; rw [if_pos hE, t3, hm]
  · unfold mdN; rw [if_pos hE, t2]; omega
theorem md_cut {l : List OV} (h : rgM l = true) : mdE ((meB l).take ((meB l).length - 1)) = 1026 := by
  obtain ⟨h1, h2, h3, h4, h5⟩ := rgM_parts h
  have hz := pz_le (n := meN l) (by omega)
  have hml := meB_len l (by omega)
  have e : meB l = bytesN 1 2 ++ bytesN (meN l) 2 ++ boO l ++ List.replicate (pz (meN l)).toNat 0 := rfl
  obtain ⟨t1, t2, _, _, t5⟩ := md_head (N := meN l) (body := boO l) (rest := List.replicate (pz (meN l)).toNat 0) rfl (by omega)
  rw [← e] at t1 t2 t5
  have hl : ((meB l).take ((meB l).length - 1)).length = (meB l).length - 1 := by rw [List.length_take]; omega
  have q1 : tT ((meB l).take ((meB l).length - 1)) = 1 := by
    unfold tT at t1 ⊢; rw [List.take_take, Nat.min_eq_left (by omega)]; exact t1
  have q2 : tN ((meB l).take ((meB l).length - 1)) = meN l := by
    unfold tN at t2 ⊢; rw [List.drop_take, List.take_take, Nat.min_eq_left (by omega)]; exact t2
  unfold mdE
  rw [hl, q1, q2, if_neg (by omega), if_neg (not_not_intro rfl), if_pos (by omega)]
/-- What is decoded is a match, and, encoded again, those bytes. -/
theorem md_dec {b : List Int} (hb : ∀ x ∈ b, 0 ≤ x ∧ x ≤ 255) (h0 : mdE b = 0) : rgM (mdL b) = true ∧ meB (mdL b) = b.take (mdN b).toNat ∧ 0 ≤ mdN b ∧ mdN b ≤ b.length := by
  have hn2 : 0 ≤ tN b ∧ tN b ≤ 65535 := num2_le (a := 2) hb
  have hz := pz_le hn2.1
  have h4 : ¬ b.length < 4 := fun h => by unfold mdE at h0; rw [if_pos h] at h0; cases h0
  have ht : tT b = 1 := Classical.byContradiction fun h => by unfold mdE at h0; rw [if_neg h4, if_pos h] at h0; cases h0
  have hr : ¬ (tN b < 4 ∨ 65528 < tN b ∨ b.length < tN b + pz (tN b)) := fun h => by unfold mdE at h0; rw [if_neg h4, if_neg (not_not_intro ht), if_pos h] at h0; cases h0
  have hm := md_in h4 ht hr
  have hg : (mlG [] (bd b)).2 = 0 := Classical.byContradiction fun h => by rw [if_pos h] at hm; exact h (hm.symm.trans h0)
  rw [if_neg (not_not_intro hg)] at hm
  have hZ : mdZ b = true := Classical.byContradiction fun h => by rw [if_neg h] at hm; rw [hm] at h0; cases h0
  have hL : mdL b = (mlG [] (bd b)).1 := if_pos h0
  have hN : mdN b = tN b + pz (tN b) := if_pos h0
  have hbb : ∀ x ∈ bd b, 0 ≤ x ∧ x ≤ 255 := fun x hx => hb x (List.mem_of_mem_take (List.mem_of_mem_drop hx))
  obtain ⟨r, e1, e2, e3, e4⟩ := mlG_dec (bd b).length (bd b) [] (mlG [] (bd b)).1 (Nat.le_refl _) hbb (Prod.ext rfl hg)
  rw [List.nil_append] at e1
  rw [← hL] at e1 e4
  rw [← e1] at e2 e3
  have hck := e4 rfl
  have hbl : (bd b).length = (tN b).toNat - 4 := by unfold bd; rw [List.length_drop, List.length_take]; omega
  have hme : meN (mdL b) = tN b := by unfold meN; rw [e3]; omega
  have hlo : longO (mdL b) = tN b := by rw [← hme]; unfold longO meN; rw [long_bo _ e2]
  refine ⟨?_, ?_, by omega, by omega⟩
  · unfold rgM; rw [e2, hck, hlo, decide_eq_true (show tN b ≤ 65528 by omega)]; rfl
  · have b1 : bytesN (tT b) 2 = b.take 2 := bytesN_numL 2 (b.take 2) (by decide) (by rw [List.length_take]; omega) fun x hx => hb x (List.mem_of_mem_take hx)
    have b2 : bytesN (tN b) 2 = (b.drop 2).take 2 := bytesN_numL 2 ((b.drop 2).take 2) (by decide) (by rw [List.length_take, List.length_drop]; omega) fun x hx => hb x (List.mem_of_mem_drop (List.mem_of_mem_take hx))
    rw [ht] at b1
    have hsplit : b.take (tN b).toNat = b.take 2 ++ (b.drop 2).take 2 ++ bd b := by
      have e1 : b.take 4 = b.take 2 ++ (b.drop 2).take 2 := by rw [← List.take_add]
      rw [← e1]
      unfold bd
      have e2 : b.take 4 = (b.take (tN b).toNat).take 4 := by rw [List.take_take, Nat.min_eq_left (by omega)]
      rw [e2, List.take_append_drop]
    have hrep : List.replicate (pz (tN b)).toNat 0 = (b.drop (tN b).toNat).take (pz (tN b)).toNat := by
      have := zeroL_eq hZ
      rw [this, List.length_take, List.length_drop, Nat.min_eq_left (by omega)]
    unfold meB
    rw [hme, e3, b1, b2, ← hsplit, hrep, hN, ← List.take_add]
    congr 1; omega
theorem rg_front {l : List OV} {k : Nat} (h : rgM l = true) : rgM (l.take k) = true := by
  obtain ⟨h1, h2, h3, h4, h5⟩ := rgM_parts h
  have ha : (l.take k).all rgO = true := List.all_eq_true.2 fun o ho => List.all_eq_true.1 h1 o (List.mem_of_mem_take ho)
  have hc : (ckS [] (l.take k)).2 = 0 := ckS_pre (s := l.drop k) (by rw [List.take_append_drop]; exact h2)
  have hb : boO l = boO (l.take k) ++ boO (l.drop k) := by unfold boO; rw [← List.flatMap_append, List.take_append_drop]
  have hl : longO (l.take k) = meN (l.take k) := by unfold longO meN; rw [long_bo _ ha]
  have hN : meN l = 4 + (boO l).length := rfl
  have hN2 : meN (l.take k) = 4 + (boO (l.take k)).length := rfl
  rw [hb, List.length_append] at hN
  unfold rgM; rw [ha, hc, hl, decide_eq_true (show meN (l.take k) ≤ 65528 by omega)]; rfl
end Go.Eng
