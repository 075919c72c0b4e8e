/- Contracts of functions of the given program, told by plain Lean functions. No condition. -/
import Derived.Test.YtcicjbcgnkbffaaDoorProg
import Derived.Test.YtcicjbcgnkbffaaDoorESum
import Derived.KernelRfl
import Derived.Test.YtcicjbcgnkbffaaDoorF3
namespace Go.Eng
open Go.Proofs
set_option linter.unusedVariables false
set_option linter.unusedSimpArgs false
set_option maxRecDepth 100000
set_option maxHeartbeats 1000000
def refL (v : List Int) (z : Int) : Nat → Int → Bool
  | 0, _ => true
  | f + 1, i => if bitop .and .u8 ((v.getD (z - 1 - i.tdiv 8).toNat 0).fdiv (2 ^ (min (i.tmod 8).toNat 8))) 1 = 1 then false else refL v z f (i + 1)
theorem refL_t {v : List Int} {z i : Int} {f : Nat} (h : bitop .and .u8 ((v.getD (z - 1 - i.tdiv 8).toNat 0).fdiv (2 ^ (min (i.tmod 8).toNat 8))) 1 = 1) : refL v z (f + 1) i = false := if_pos h
theorem refL_f {v : List Int} {z i : Int} {f : Nat} (h : ¬ bitop .and .u8 ((v.getD (z - 1 - i.tdiv 8).toNat 0).fdiv (2 ^ (min (i.tmod 8).toNat 8))) 1 = 1) : refL v z (f + 1) i = refL v z f (i + 1) := if_neg h
def refFitsF (n : Int) (v : List Int) : Bool := if fIs n = true ∧ (v.length : Int) = sizeR n then refL v (sizeR n) (8 * sizeR n - bitsR n).toNat (bitsR n) else false
theorem tab_le : ∀ k < 40, 1 ≤ sizeR (k : Nat) ∧ sizeR (k : Nat) ≤ 16 ∧ 1 ≤ bitsR (k : Nat) ∧ bitsR (k : Nat) ≤ 8 * sizeR (k : Nat) := by decide
def ir_r07_Fits : IR :=
 (.seq
  (.reg ((⟨(some 4), .mov (.c (.kb false)), none⟩ : IOper) ::
    []))
  (.seq
   (.reg ((⟨(some 9), .mov (.t 0), none⟩ : IOper) ::
     (⟨(some 10), .call false (.f 26) [(.t 9)], none⟩ : IOper) ::
     (⟨(some 8), .mov (.t 10), none⟩ : IOper) ::
     (⟨(some 11), .extract (.t 8) 0, none⟩ : IOper) ::
     (⟨(some 12), .extract (.t 8) 1, none⟩ : IOper) ::
     (⟨(some 5), .box [.str [], .int .i64 0, .int .i64 0, .kb false, .int .i64 0, .imm (.int .u64) []], none⟩ : IOper) ::
     (⟨none, .store 6 (.t 5) (.t 11), none⟩ : IOper) ::
     (⟨(some 6), .mov (.t 12), none⟩ : IOper) ::
     []))
   (.seq
    (.seq
     (.reg ((⟨(some 13), .mov (.t 6), none⟩ : IOper) ::
       (⟨(some 14), .un .not (.t 13), none⟩ : IOper) ::
       (⟨(some 15), .mov (.t 14), none⟩ : IOper) ::
       (⟨(some 16), .mov (.t 1), (some (15, false))⟩ : IOper) ::
       (⟨(some 17), .len (.t 16), (some (15, false))⟩ : IOper) ::
       (⟨(some 18), .fieldAddr 2 (.t 5), (some (15, false))⟩ : IOper) ::
       (⟨(some 19), .load none (.t 18), (some (15, false))⟩ : IOper) ::
       (⟨(some 20), .bin .neq (.t 17) (.t 19), (some (15, false))⟩ : IOper) ::
       (⟨(some 21), .pick (.t 15) (.c (.kb true)) (.t 20), none⟩ : IOper) ::
       []))
     (.cond (.t 21)
      (.seq
       (.reg ((⟨(some 4), .mov (.c (.kb false)), none⟩ : IOper) ::
         []))
       .ret)
      .skip))
    (.seq
     (.seq
      (.reg ((⟨(some 22), .fieldAddr 1 (.t 5), none⟩ : IOper) ::
        (⟨(some 23), .load none (.t 22), none⟩ : IOper) ::
        (⟨(some 7), .mov (.t 23), none⟩ : IOper) ::
        []))
      (.block 0
       (.loop
        (.seq
         (.seq
          (.reg ((⟨(some 24), .mov (.t 7), none⟩ : IOper) ::
            (⟨(some 25), .fieldAddr 2 (.t 5), none⟩ : IOper) ::
            (⟨(some 26), .load none (.t 25), none⟩ : IOper) ::
            (⟨(some 27), .bin .mul (.c (.int .i64 8)) (.t 26), none⟩ : IOper) ::
            (⟨(some 28), .bin .lss (.t 24) (.t 27), none⟩ : IOper) ::
            []))
          (.cond (.t 28)
           .skip
           (.exit 0)))
         (.seq
          (.block 1
           (.seq
            (.reg ((⟨(some 31), .mov (.t 1), none⟩ : IOper) ::
              (⟨(some 32), .fieldAddr 2 (.t 5), none⟩ : IOper) ::
              (⟨(some 33), .load none (.t 32), none⟩ : IOper) ::
              (⟨(some 34), .bin .sub (.t 33) (.c (.int .i64 1)), none⟩ : IOper) ::
              (⟨(some 35), .mov (.t 7), none⟩ : IOper) ::
              (⟨(some 36), .bin .quo (.t 35) (.c (.int .i64 8)), none⟩ : IOper) ::
              (⟨(some 37), .bin .sub (.t 34) (.t 36), none⟩ : IOper) ::
              (⟨(some 38), .indexSl 1 (.t 31) (.t 37), none⟩ : IOper) ::
              (⟨(some 39), .load none (.t 38), none⟩ : IOper) ::
              (⟨(some 40), .mov (.t 7), none⟩ : IOper) ::
              (⟨(some 41), .bin .rem (.t 40) (.c (.int .i64 8)), none⟩ : IOper) ::
              (⟨(some 42), .bin .shr (.t 39) (.t 41), none⟩ : IOper) ::
              (⟨(some 43), .bin .and (.t 42) (.c (.int .u8 1)), none⟩ : IOper) ::
              (⟨(some 44), .bin .eql (.t 43) (.c (.int .u8 1)), none⟩ : IOper) ::
              []))
            (.cond (.t 44)
             (.seq
              (.reg ((⟨(some 4), .mov (.c (.kb false)), none⟩ : IOper) ::
                []))
              .ret)
             .skip)))
          (.reg ((⟨(some 29), .mov (.t 7), none⟩ : IOper) ::
            (⟨(some 30), .bin .add (.t 29) (.c (.int .i64 1)), none⟩ : IOper) ::
            (⟨(some 7), .mov (.t 30), none⟩ : IOper) ::
            [])))))))
     (.seq
      (.reg ((⟨(some 4), .mov (.c (.kb true)), none⟩ : IOper) ::
        []))
      .ret)))))
def rd_r07_Fits : List RD := [.tmp 4 true none]
theorem ok_r07_Fits : fnOk Tryd.prog Tryd.f50 ir_r07_Fits rd_r07_Fits = true := by kernel_rfl
def S_r07_Fits : List AV → List Obj → Option (Prop × AV)
  | [.int .i64 n, .imm (.int .u8) v], [] => some ((True, .bool (refFitsF n v)))
  | _, _ => none
theorem snd_r07_Fits : SoundS Tryd.prog 50 (RoF S_r07_Fits).sum := by
  refine ro_fn Tryd.func50 ok_r07_Fits (env_cons (s := RoF S_r07_Of) snd_r07_Of (env_nil _)) fun args objs p v e => ?_
  unfold S_r07_Fits at e
  split at e
  · rename_i n v
    cases e
    refine ⟨rfl, fun hw ho hp => ?_⟩
    change List Int at v
    have hl : v.length ≤ maxLen := (hw (.imm (.int .u8) v) (by simp)).2
    unfold maxLen at hl
    repeat' (intro t ht; first | (cases t <;> first | (cases ht; done) | ((try simp only [Bool.not_eq_eq_eq_not, Bool.not_true, Bool.not_false, Bool.and_eq_true, Bool.and_eq_false_iff, decide_eq_true_eq, decide_eq_false_iff_not] at ht); (try simp only [Int.toNat_natCast, dflt_int] at ht))) | (refine ht ?_ ?_ <;> clear ht) | (refine ht.1 ?_ ?_ <;> clear ht) | (refine ht ?_; clear ht))
    all_goals first
      | trivial
      | (refine ⟨?_, rfl⟩; unfold refFitsF; rw [if_neg (fun h => by (try simp only [Int.toNat_natCast, dflt_int, decide_eq_true_eq, decide_eq_false_iff_not, Bool.not_eq_eq_eq_not, Bool.not_true, Bool.not_false, Bool.and_eq_true, Bool.and_eq_false_iff, min_i64, max_i64, min_u64, max_u64, min_u32, max_u32, min_u16, max_u16, min_u8, max_u8] at *); simp_all; done)])
      | (have hn : fIs n = true := by assumption
         have hr := fIs_t.1 hn
         have hsz := tab_le n.toNat (by omega)
         rw [Int.toNat_of_nonneg (by omega)] at hsz
         obtain ⟨F, hF⟩ : ∃ F, F = (8 * (sizeR n) - (bitsR n)).toNat := ⟨_, rfl⟩
         intro r h1 h2
         refine h2 ⟨[1, 5, 7], Nat × Int, (fun p => p.1 ≤ F ∧ p.2 = (bitsR n) + p.1 ∧ refL v (sizeR n) F (bitsR n) = refL v (sizeR n) (F - p.1) p.2),
           fun a => [.imm (.int .u8) v, .ptr 0 0, .int .i64 a.2], fun _ => [.box [.str (nameR n), .int .i64 (bitsR n), .int .i64 (sizeR n), .bool (maskR n), .int .i64 (needR n), .imm (.int .u64) (valsR n)]], fun a => F - a.1, ⟨(0, (bitsR n)), ⟨Nat.zero_le _, by simp, rfl⟩, rfl, rfl⟩, ?_⟩
         clear h1 h2)
    rintro ⟨i, s⟩ ⟨hi, hs, he⟩
    dsimp only at hi hs he
    repeat' (intro t ht; first | (cases t <;> first | (cases ht; done) | ((try simp only [Bool.not_eq_eq_eq_not, Bool.not_true, Bool.not_false, Bool.and_eq_true, Bool.and_eq_false_iff, decide_eq_true_eq, decide_eq_false_iff_not] at ht); (try simp only [Int.toNat_natCast, dflt_int] at ht))) | (refine ht ?_ ?_ <;> clear ht) | (refine ht.1 ?_ ?_ <;> clear ht) | (refine ht ?_; clear ht))
    all_goals have htd : s.tdiv 8 = s / 8 := tdiv_nn (by omega)
    all_goals have htm : s.tmod 8 = s % 8 := tmod_nn (by omega)
    all_goals have hv : fIs n = true ∧ (v.length : Int) = (sizeR n) := ⟨hn, by (try simp only [Int.toNat_natCast, dflt_int, decide_eq_true_eq, decide_eq_false_iff_not, Bool.not_eq_eq_eq_not, Bool.not_true, Bool.not_false, Bool.and_eq_true, Bool.and_eq_false_iff, min_i64, max_i64, min_u64, max_u64, min_u32, max_u32, min_u16, max_u16, min_u8, max_u8] at *); omega⟩
    all_goals first
      | exact (by decide)
      | (refine ⟨?_, rfl⟩; unfold refFitsF; rw [if_pos hv, ← hF, he]; (try simp only [Int.toNat_natCast, dflt_int, decide_eq_true_eq, decide_eq_false_iff_not, Bool.not_eq_eq_eq_not, Bool.not_true, Bool.not_false, Bool.and_eq_true, Bool.and_eq_false_iff, min_i64, max_i64, min_u64, max_u64, min_u32, max_u32, min_u16, max_u16, min_u8, max_u8] at *); rw [show F - i = 0 by omega]; rfl)
      | (refine ⟨?_, rfl⟩; unfold refFitsF; rw [if_pos hv, ← hF, he]; (try simp only [Int.toNat_natCast, dflt_int, decide_eq_true_eq, decide_eq_false_iff_not, Bool.not_eq_eq_eq_not, Bool.not_true, Bool.not_false, Bool.and_eq_true, Bool.and_eq_false_iff, min_i64, max_i64, min_u64, max_u64, min_u32, max_u32, min_u16, max_u16, min_u8, max_u8] at *); rw [show F - i = (F - i - 1) + 1 by omega, refL_t (by assumption)])
      | ((try simp only [Int.toNat_natCast, dflt_int, decide_eq_true_eq, decide_eq_false_iff_not, Bool.not_eq_eq_eq_not, Bool.not_true, Bool.not_false, Bool.and_eq_true, Bool.and_eq_false_iff, min_i64, max_i64, min_u64, max_u64, min_u32, max_u32, min_u16, max_u16, min_u8, max_u8] at *); omega)
      | ((try simp only [Int.toNat_natCast, dflt_int, decide_eq_true_eq, decide_eq_false_iff_not, Bool.not_eq_eq_eq_not, Bool.not_true, Bool.not_false, Bool.and_eq_true, Bool.and_eq_false_iff, min_i64, max_i64, min_u64, max_u64, min_u32, max_u32, min_u16, max_u16, min_u8, max_u8] at *); simp only [htd, htm]; omega)
      | (have hlt : s < 8 * (sizeR n) := by ((try simp only [Int.toNat_natCast, dflt_int, decide_eq_true_eq, decide_eq_false_iff_not, Bool.not_eq_eq_eq_not, Bool.not_true, Bool.not_false, Bool.and_eq_true, Bool.and_eq_false_iff, min_i64, max_i64, min_u64, max_u64, min_u32, max_u32, min_u16, max_u16, min_u8, max_u8] at *); omega)
         refine ⟨(i + 1, s + 1), ⟨by dsimp only; omega, by dsimp only; omega, by (try simp only [Int.toNat_natCast, dflt_int, decide_eq_true_eq, decide_eq_false_iff_not, Bool.not_eq_eq_eq_not, Bool.not_true, Bool.not_false, Bool.and_eq_true, Bool.and_eq_false_iff, min_i64, max_i64, min_u64, max_u64, min_u32, max_u32, min_u16, max_u16, min_u8, max_u8] at *); rw [he, show F - i = (F - (i + 1)) + 1 by omega, refL_f (by assumption)]⟩, by dsimp only; omega, rfl, rfl⟩)
  · cases e
theorem rev_done {l x : List Int} {i : Nat} (hi : 2 * i ≤ l.length) (hj : l.length ≤ 2 * i + 1) (hx : x.length = l.length) (hk : ∀ k, k < l.length → x.getD k 0 = if k < i ∨ l.length ≤ k + i then l.getD (l.length - 1 - k) 0 else l.getD k 0) : x = l.reverse := by
  apply List.ext_getElem (by simp [hx])
  intro k h1 h2
  have h := hk k (by omega)
  rw [List.getElem_reverse]
  have e1 : x.getD k 0 = x[k] := by rw [List.getD_eq_getElem?_getD, List.getElem?_eq_getElem h1]; rfl
  have e2 : l.getD (l.length - 1 - k) 0 = l[l.length - 1 - k]'(by omega) := by rw [List.getD_eq_getElem?_getD, List.getElem?_eq_getElem (by omega)]; rfl
  rw [← e1, h, ← e2]
  split
  · rfl
  · rw [show l.length - 1 - k = k by omega]
theorem rev_step {l x : List Int} {i : Nat} (hlt : 2 * i + 1 < l.length) (hx : x.length = l.length) (hk : ∀ k, k < l.length → x.getD k 0 = if k < i ∨ l.length ≤ k + i then l.getD (l.length - 1 - k) 0 else l.getD k 0) :
    ∀ k, k < l.length → ((x.set i (x.getD (l.length - 1 - i) 0)).set (l.length - 1 - i) (x.getD i 0)).getD k 0 = if k < i + 1 ∨ l.length ≤ k + (i + 1) then l.getD (l.length - 1 - k) 0 else l.getD k 0 := fun k h => by
  have h1 := hk k h
  have h2 := hk i (by omega)
  have h3 := hk (l.length - 1 - i) (by omega)
  rw [if_neg (by omega)] at h2 h3
  rw [List.getD_eq_getElem?_getD, List.getElem?_set, List.getElem?_set]
  by_cases e1 : l.length - 1 - i = k
  · rw [if_pos e1, if_pos (by simp; omega), if_pos (by omega)]
    simp only [Option.getD_some]
    rw [h2, show l.length - 1 - k = i by omega]
  · rw [if_neg e1]
    by_cases e2 : i = k
    · rw [if_pos e2, if_pos (by omega), if_pos (by omega)]
      simp only [Option.getD_some]
      rw [h3, e2]
    · rw [if_neg e2, ← List.getD_eq_getElem?_getD, h1]
      by_cases e3 : k < i ∨ l.length ≤ k + i
      · rw [if_pos e3, if_pos (by omega)]
      · rw [if_neg e3, if_neg (by omega)]
theorem castL {t : Ty} (h : t = t) (x : List t.den) : (h ▸ x : List t.den) = x := rfl
def needsF (n : Int) : List Int := if 0 ≤ n ∧ n < 40 then (if (needF n).1 = -1 then [] else if (needF (needF n).1).1 = -1 then [(needF n).1] else if (needF (needF (needF n).1).1).1 = -1 then [(needF (needF n).1).1, (needF n).1] else [(needF (needF (needF n).1).1).1, (needF (needF n).1).1, (needF n).1]) else []
theorem need4 : ∀ k < 40, (needF (needF (needF (needF (k : Nat)).1).1).1).1 = -1 ∨ (needF (needF (needF (k : Nat)).1).1).1 = -1 ∨ (needF (needF (k : Nat)).1).1 = -1 ∨ (needF (k : Nat)).1 = -1 := by decide
end Go.Eng
