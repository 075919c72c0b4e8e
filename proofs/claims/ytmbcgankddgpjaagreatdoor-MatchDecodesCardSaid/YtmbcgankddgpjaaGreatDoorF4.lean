/- Contracts of functions of the given program, told by plain Lean functions. No condition. -/
import Derived.Test.YtmbcgankddgpjaaGreatDoorProg
import Derived.Test.YtmbcgankddgpjaaGreatDoorEArg
import Derived.KernelRfl
import Derived.Test.YtmbcgankddgpjaaGreatDoorF2
namespace Go.Eng
open Go.Proofs
set_option linter.unusedVariables false
set_option linter.unusedSimpArgs false
set_option maxRecDepth 100000
set_option maxHeartbeats 1000000
def refL (v : List Int) (z : Int) : Nat → Int → Bool
  | 0, _ => true
  | f + 1, i => if bitop .and .u8 ((v.getD (z - 1 - i.tdiv 8).toNat 0).fdiv (2 ^ (min (i.tmod 8).toNat 8))) 1 = 1 then false else refL v z f (i + 1)
theorem refL_t {v : List Int} {z i : Int} {f : Nat} (h : bitop .and .u8 ((v.getD (z - 1 - i.tdiv 8).toNat 0).fdiv (2 ^ (min (i.tmod 8).toNat 8))) 1 = 1) : refL v z (f + 1) i = false := if_pos h
theorem refL_f {v : List Int} {z i : Int} {f : Nat} (h : ¬ bitop .and .u8 ((v.getD (z - 1 - i.tdiv 8).toNat 0).fdiv (2 ^ (min (i.tmod 8).toNat 8))) 1 = 1) : refL v z (f + 1) i = refL v z f (i + 1) := if_neg h
def refFitsF (n : Int) (v : List Int) : Bool := if fIs n = true ∧ (v.length : Int) = sizeR n then refL v (sizeR n) (8 * sizeR n - bitsR n).toNat (bitsR n) else false
theorem tab_le : ∀ k < 40, 1 ≤ sizeR (k : Nat) ∧ sizeR (k : Nat) ≤ 16 ∧ 1 ≤ bitsR (k : Nat) ∧ bitsR (k : Nat) ≤ 8 * sizeR (k : Nat) := by decide
def ir_r07_Fits : IR :=
(.seq
(.keep [0, 1]
(.reg (oD 4 (.mov cF) ::
[])))
(.seq
(.keep [0, 1]
(.reg (oM 9 0 ::
oD 10 (.call false (.f 133) [(.t 9)]) ::
oM 8 10 ::
oD 11 (.extract (.t 8) 0) ::
oD 12 (.extract (.t 8) 1) ::
oD 5 (.box [.str [], .int .i64 0, .int .i64 0, .kb false, .int .i64 0, .imm (.int .u64) []]) ::
oN (.store 6 (.t 5) (.t 11)) ::
oM 6 12 ::
[])))
(.seq
(.seq
(.keep [1, 5, 6]
(.reg (oM 13 6 ::
oD 14 (.un .not (.t 13)) ::
oM 15 14 ::
oF 15 16 (.mov (.t 1)) ::
oF 15 17 (.len (.t 16)) ::
oF 15 18 (.fieldAddr 2 (.t 5)) ::
oF 15 19 (.load none (.t 18)) ::
oF 15 20 (.bin .neq (.t 17) (.t 19)) ::
oD 21 (.pick (.t 15) cT (.t 20)) ::
[])))
(.cond (.t 21)
(.seq
(.keep []
(.reg (oD 4 (.mov cF) ::
[])))
.ret)
.skip))
(.seq
(.seq
(.keep [1, 5]
(.reg (oD 22 (.fieldAddr 1 (.t 5)) ::
oL 23 22 ::
oM 7 23 ::
[])))
(.block 0
(.loop
(.seq
(.seq
(.keep [1, 5, 7]
(.reg (oM 24 7 ::
oD 25 (.fieldAddr 2 (.t 5)) ::
oL 26 25 ::
oD 27 (.bin .mul (cI 8) (.t 26)) ::
oD 28 (.bin .lss (.t 24) (.t 27)) ::
[])))
(.cond (.t 28)
.skip
(.exit 0)))
(.seq
(.block 1
(.seq
(.keep [1, 5, 7]
(.reg (oM 31 1 ::
oD 32 (.fieldAddr 2 (.t 5)) ::
oL 33 32 ::
oD 34 (.bin .sub (.t 33) (cI 1)) ::
oM 35 7 ::
oD 36 (.bin .quo (.t 35) (cI 8)) ::
oD 37 (.bin .sub (.t 34) (.t 36)) ::
oD 38 (.indexSl 1 (.t 31) (.t 37)) ::
oL 39 38 ::
oM 40 7 ::
oD 41 (.bin .rem (.t 40) (cI 8)) ::
oD 42 (.bin .shr (.t 39) (.t 41)) ::
oD 43 (.bin .and (.t 42) (.c (.int .u8 1))) ::
oD 44 (.bin .eql (.t 43) (.c (.int .u8 1))) ::
[])))
(.cond (.t 44)
(.seq
(.keep []
(.reg (oD 4 (.mov cF) ::
[])))
.ret)
.skip)))
(.keep [1, 5, 7]
(.reg (oM 29 7 ::
oD 30 (.bin .add (.t 29) (cI 1)) ::
oM 7 30 ::
[]))))))))
(.seq
(.keep []
(.reg (oD 4 (.mov cT) ::
[])))
.ret)))))
def rd_r07_Fits : List RD := [.tmp 4 true none]
theorem ok_r07_Fits : fnOk Tryz.prog Tryz.f174 ir_r07_Fits rd_r07_Fits = true := by kernel_rfl
def S_r07_Fits : List AV → List Obj → Option (Prop × AV)
  | [.int .i64 n, .imm (.int .u8) v], [] => some ((True, .bool (refFitsF n v)))
  | _, _ => none
theorem snd_r07_Fits : SoundS Tryz.prog 174 (RoF S_r07_Fits).sum := by
  refine ro_fn Tryz.func174 ok_r07_Fits (env_cons (s := RoF S_r07_Of) snd_r07_Of (env_nil _)) fun args objs p v e => ?_
  unfold S_r07_Fits at e
  split at e
  · rename_i n v
    cases e
    refine ⟨rfl, fun hw ho hp => ?_⟩
    change List Int at v
    have hl : v.length ≤ maxLen := (hw (.imm (.int .u8) v) (by simp)).2
    unfold maxLen at hl
    repeat' (intro t ht; first | (cases t <;> first | (cases ht; done) | ((try simp only [bn_s] at ht); (try simp only [nd_s] at ht))) | (refine ht ?_ ?_ <;> clear ht) | (refine ht.1 ?_ ?_ <;> clear ht) | (refine ht ?_; clear ht))
    all_goals first
      | trivial
      | (refine ⟨?_, rfl⟩; unfold refFitsF; rw [if_neg (fun h => by (try simp only [nd_s, bn_s, mm_s] at *); simp_all; done)])
      | (have hn : fIs n = true := by assumption
         have hr := fIs_t.1 hn
         have hsz := tab_le n.toNat (by omega)
         rw [Int.toNat_of_nonneg (by omega)] at hsz
         obtain ⟨F, hF⟩ : ∃ F, F = (8 * (sizeR n) - (bitsR n)).toNat := ⟨_, rfl⟩
         intro r h1 h2
         refine h2 ⟨[1, 5, 7], Nat × Int, (fun p => p.1 ≤ F ∧ p.2 = (bitsR n) + p.1 ∧ refL v (sizeR n) F (bitsR n) = refL v (sizeR n) (F - p.1) p.2),
           fun a => [.imm (.int .u8) v, .ptr 0 0, .int .i64 a.2], fun _ => [.box [.str (nameR n), .int .i64 (bitsR n), .int .i64 (sizeR n), .bool (maskR n), .int .i64 (needR n), .imm (.int .u64) (valsR n)]], fun a => F - a.1, ⟨(0, (bitsR n)), ⟨Nat.zero_le _, by simp, rfl⟩, rfl, rfl⟩, ?_⟩
         clear h1 h2)
    rintro ⟨i, s⟩ ⟨hi, hs, he⟩
    dsimp only at hi hs he
    repeat' (intro t ht; first | (cases t <;> first | (cases ht; done) | ((try simp only [bn_s] at ht); (try simp only [nd_s] at ht))) | (refine ht ?_ ?_ <;> clear ht) | (refine ht.1 ?_ ?_ <;> clear ht) | (refine ht ?_; clear ht))
    all_goals have htd : s.tdiv 8 = s / 8 := tdiv_nn (by omega)
    all_goals have htm : s.tmod 8 = s % 8 := tmod_nn (by omega)
    all_goals have hv : fIs n = true ∧ (v.length : Int) = (sizeR n) := ⟨hn, by (try simp only [nd_s, bn_s, mm_s] at *); omega⟩
    all_goals first
      | exact (by decide)
      | (refine ⟨?_, rfl⟩; unfold refFitsF; rw [if_pos hv, ← hF, he]; (try simp only [nd_s, bn_s, mm_s] at *); rw [show F - i = 0 by omega]; rfl)
      | (refine ⟨?_, rfl⟩; unfold refFitsF; rw [if_pos hv, ← hF, he]; (try simp only [nd_s, bn_s, mm_s] at *); rw [show F - i = (F - i - 1) + 1 by omega, refL_t (by assumption)])
      | ((try simp only [nd_s, bn_s, mm_s] at *); omega)
      | ((try simp only [nd_s, bn_s, mm_s] at *); simp only [htd, htm]; omega)
      | (have hlt : s < 8 * (sizeR n) := by ((try simp only [nd_s, bn_s, mm_s] at *); omega)
         refine ⟨(i + 1, s + 1), ⟨by dsimp only; omega, by dsimp only; omega, by (try simp only [nd_s, bn_s, mm_s] at *); rw [he, show F - i = (F - (i + 1)) + 1 by omega, refL_f (by assumption)]⟩, by dsimp only; omega, rfl, rfl⟩)
  · cases e
theorem rev_done {l x : List Int} {i : Nat} (hi : 2 * i ≤ l.length) (hj : l.length ≤ 2 * i + 1) (hx : x.length = l.length) (hk : ∀ k, k < l.length → x.getD k 0 = if k < i ∨ l.length ≤ k + i then l.getD (l.length - 1 - k) 0 else l.getD k 0) : x = l.reverse := by
  apply List.ext_getElem (by simp [hx])
  intro k h1 h2
  have h := hk k (by omega)
  rw [List.getElem_reverse]
  have e1 : x.getD k 0 = x[k] := by rw [List.getD_eq_getElem?_getD, List.getElem?_eq_getElem h1]; rfl
  have e2 : l.getD (l.length - 1 - k) 0 = l[l.length - 1 - k]'(by omega) := by rw [List.getD_eq_getElem?_getD, List.getElem?_eq_getElem (by omega)]; rfl
  rw [← e1, h, ← e2]
  split
  · rfl
  · rw [show l.length - 1 - k = k by omega]
theorem rev_step {l x : List Int} {i : Nat} (hlt : 2 * i + 1 < l.length) (hx : x.length = l.length) (hk : ∀ k, k < l.length → x.getD k 0 = if k < i ∨ l.length ≤ k + i then l.getD (l.length - 1 - k) 0 else l.getD k 0) :
    ∀ k, k < l.length → ((x.set i (x.getD (l.length - 1 - i) 0)).set (l.length - 1 - i) (x.getD i 0)).getD k 0 = if k < i + 1 ∨ l.length ≤ k + (i + 1) then l.getD (l.length - 1 - k) 0 else l.getD k 0 := fun k h => by
  have h1 := hk k h
  have h2 := hk i (by omega)
  have h3 := hk (l.length - 1 - i) (by omega)
  rw [if_neg (by omega)] at h2 h3
  rw [List.getD_eq_getElem?_getD, List.getElem?_set, List.getElem?_set]
  by_cases e1 : l.length - 1 - i = k
  · rw [if_pos e1, if_pos (by simp; omega), if_pos (by omega)]
    simp only [Option.getD_some]
    rw [h2, show l.length - 1 - k = i by omega]
  · rw [if_neg e1]
    by_cases e2 : i = k
    · rw [if_pos e2, if_pos (by omega), if_pos (by omega)]
      simp only [Option.getD_some]
      rw [h3, e2]
    · rw [if_neg e2, ← List.getD_eq_getElem?_getD, h1]
      by_cases e3 : k < i ∨ l.length ≤ k + i
      · rw [if_pos e3, if_pos (by omega)]
      · rw [if_neg e3, if_neg (by omega)]
theorem castL {t : Ty} (h : t = t) (x : List t.den) : (h ▸ x : List t.den) = x := rfl
def needsF (n : Int) : List Int := if 0 ≤ n ∧ n < 40 then (if (needF n).1 = -1 then [] else if (needF (needF n).1).1 = -1 then [(needF n).1] else if (needF (needF (needF n).1).1).1 = -1 then [(needF (needF n).1).1, (needF n).1] else [(needF (needF (needF n).1).1).1, (needF (needF n).1).1, (needF n).1]) else []
theorem need4 : ∀ k < 40, (needF (needF (needF (needF (k : Nat)).1).1).1).1 = -1 ∨ (needF (needF (needF (k : Nat)).1).1).1 = -1 ∨ (needF (needF (k : Nat)).1).1 = -1 ∨ (needF (k : Nat)).1 = -1 := by decide
theorem c1 : needsF 31 = [5, 10, 29] := by decide
theorem c2 : findN [105, 112, 118, 54, 95, 110, 100, 95, 116, 108, 108] = 33 ∧ findB [105, 112, 118, 54, 95, 110, 100, 95, 116, 108, 108] = true := by
  have h : idxF namesL [105, 112, 118, 54, 95, 110, 100, 95, 116, 108, 108] 0 = 33 := by decide +kernel
  unfold findN findB; rw [h]; exact ⟨rfl, rfl⟩
theorem c3 : fIs 33 = true ∧ fNeed 33 = 29 ∧ fVals 33 = [136] := by decide
theorem c4 : fitsF 7 [8] = false := by decide
theorem c5 : fitsF 7 [7] = true := by decide
theorem spare0 : ∀ v : List Int, (∀ b ∈ v, 0 ≤ b ∧ b ≤ 255) → spareF 0 v = true
  | [], _ => rfl
  | b :: r, h => by
    unfold spareF
    have hb := h b (by simp)
    rw [if_pos (by show b.fdiv (2 ^ 8) = 0; rw [Int.fdiv_eq_ediv_of_nonneg _ (by decide)]; omega)]
    exact spare0 r fun x hx => h x (by simp [hx])
theorem refL_add (v : List Int) (z : Int) : ∀ (f g : Nat) (i : Int), refL v z (f + g) i = (refL v z f i && refL v z g (i + f))
  | 0, g, i => by simp [refL]
  | f + 1, g, i => by
    rw [show f + 1 + g = (f + g) + 1 by omega]
    by_cases h : bitop .and .u8 ((v.getD (z - 1 - i.tdiv 8).toNat 0).fdiv (2 ^ (min (i.tmod 8).toNat 8))) 1 = 1
    · rw [refL_t h, refL_t h]; rfl
    · rw [refL_f h, refL_f h, refL_add v z f g (i + 1), show i + 1 + (f : Int) = i + ((f + 1 : Nat) : Int) by omega]
theorem top_all : ∀ s ≤ 8, ∀ b < 256, spareF (s : Nat) [((b : Nat) : Int)] = refL [((b : Nat) : Int)] 1 s ((8 : Int) - (s : Nat)) := by decide +kernel
theorem top_one {s : Nat} {b : Int} (hs : s ≤ 8) (h : 0 ≤ b ∧ b ≤ 255) : spareF s [b] = refL [b] 1 s (8 - s) := by
  have := top_all s hs b.toNat (by omega)
  rw [Int.toNat_of_nonneg h.1] at this; exact this
theorem spare_cut {s : Int} {b : Int} {r : List Int} (h : s ≤ 8) (hr : ∀ x ∈ r, 0 ≤ x ∧ x ≤ 255) : spareF s (b :: r) = spareF s [b] := by
  unfold spareF
  rw [if_neg (by omega : ¬ 8 < s), Int.sub_self, spare0 r hr]
  rfl
theorem two {b0 b1 b2 b3 : Int} {v : List Int} (e : v = [b0, b1, b2, b3]) (hv : ∀ b ∈ v, 0 ≤ b ∧ b ≤ 255) : spareF 12 v = refL v 4 12 20 := by
  subst e
  have h0 := top_one (s := 8) (Nat.le_refl _) (hv b0 (by simp))
  have h1 := top_one (s := 4) (by omega) (hv b1 (by simp))
  have hr := refL_add [b0, b1, b2, b3] 4 4 8 20
  have e1 : refL [b0, b1, b2, b3] 4 4 20 = refL [b1] 1 4 (8 - (4 : Nat)) := rfl
  have e2 : refL [b0, b1, b2, b3] 4 8 (20 + (4 : Nat)) = refL [b0] 1 8 (8 - (8 : Nat)) := rfl
  have hc : spareF 4 (b1 :: [b2, b3]) = spareF 4 [b1] := spare_cut (by omega) fun x hx => hv x (by simp at hx ⊢; omega)
  rw [show (12 : Nat) = 4 + 8 from rfl, hr, e1, e2, ← h0, ← h1]
  show (if b0.fdiv (2 ^ (min (8 - (8 : Int)).toNat 8)) = 0 then spareF 4 [b1, b2, b3] else false) = (spareF 4 [b1] && (if b0.fdiv (2 ^ (min (8 - (8 : Int)).toNat 8)) = 0 then true else false))
  rw [hc]
  split <;> simp
theorem fits_tab : ∀ k < 40, fIs (k : Nat) = true ∧ sizeF (k : Nat) = sizeR (k : Nat) ∧ bitsL.getD k 0 = bitsR (k : Nat) ∧ (8 * sizeR (k : Nat) - bitsR (k : Nat) = 0 ∨ k = 6 ∨ k = 7 ∨ k = 8 ∨ k = 9 ∨ k = 28 ∨ k = 34 ∨ k = 35 ∨ k = 36 ∨ k = 39) := by decide
theorem fits_law {n : Int} {v : List Int} (hv : ∀ b ∈ v, 0 ≤ b ∧ b ≤ 255) : fitsF n v = refFitsF n v := by
  by_cases hn : 0 ≤ n ∧ n < 40
  · obtain ⟨k, rfl⟩ : ∃ k : Nat, n = k := ⟨n.toNat, by omega⟩
    obtain ⟨h0, h1, h2, h3⟩ := fits_tab k (by omega)
    unfold fitsF refFitsF
    rw [h1]
    by_cases hl : (v.length : Int) = sizeR k
    · rw [if_pos ⟨hn, hl⟩, if_pos ⟨h0, hl⟩, Int.toNat_natCast, h2]
      have one : ∀ {s : Nat} {f : Nat} {i z : Int} {b : Int} {r : List Int}, v = b :: r → s ≤ 8 → f = s → (refL v z f i = refL [b] 1 s (8 - s)) → spareF s v = refL v z f i := fun {s f i z b r} e hs _ hr => by
        rw [hr, ← top_one hs (hv b (by rw [e]; simp)), e]
        exact spare_cut (by omega) fun x hx => hv x (by rw [e]; simp [hx])
      rcases h3 with h3 | rfl | rfl | rfl | rfl | rfl | rfl | rfl | rfl | rfl
      · rw [h3, spare0 v hv]; rfl
      · match v, hl with
        | [b0, b1], _ => exact one (s := 3) rfl (by omega) rfl rfl
      · match v, hl with
        | [b0], _ => exact one (s := 5) rfl (by omega) rfl rfl
      · match v, hl with
        | [b0], _ => exact one (s := 2) rfl (by omega) rfl rfl
      · match v, hl with
        | [b0], _ => exact one (s := 6) rfl (by omega) rfl rfl
      · match v, hl with
        | [b0, b1, b2, b3], _ => exact two rfl hv
      · match v, hl with
        | [b0, b1, b2, b3], _ => exact two rfl hv
      · match v, hl with
        | [b0], _ => exact one (s := 5) rfl (by omega) rfl rfl
      · match v, hl with
        | [b0], _ => exact one (s := 7) rfl (by omega) rfl rfl
      · match v, hl with
        | [b0, b1], _ => exact one (s := 7) rfl (by omega) rfl rfl
    · rw [if_neg (fun h => hl h.2), if_neg (fun h => hl h.2)]
  · unfold fitsF refFitsF
    rw [if_neg (fun h => hn h.1), if_neg (fun h => hn (fIs_t.1 h.1))]
end Go.Eng
