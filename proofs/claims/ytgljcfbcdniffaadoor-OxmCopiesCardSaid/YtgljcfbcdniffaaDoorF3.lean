/- Contracts of functions of the given program, told by plain Lean functions. No condition. -/
import Derived.Test.YtgljcfbcdniffaaDoorProg
import Derived.Test.YtgljcfbcdniffaaDoorESum
import Derived.KernelRfl
import Derived.Test.YtgljcfbcdniffaaDoorF2
namespace Go.Eng
open Go.Proofs
set_option linter.unusedVariables false
set_option linter.unusedSimpArgs false
set_option maxRecDepth 100000
set_option maxHeartbeats 1000000
def idxF : List (List Int) → List Int → Nat → Int
  | [], _, _ => -1
  | a :: r, s, k => if s = a then k else idxF r s (k + 1)
theorem idxF_step {l : List (List Int)} {s : List Int} {i : Nat} (h : i < l.length) : idxF (l.drop i) s i = if s = l.getD i [] then (i : Int) else idxF (l.drop (i + 1)) s (i + 1) := by
  rw [List.drop_eq_getElem_cons h, List.getD_eq_getElem?_getD, List.getElem?_eq_getElem h]
  rfl
theorem idxF_end {l : List (List Int)} {s : List Int} {i : Nat} (h : l.length ≤ i) : idxF (l.drop i) s i = -1 := by
  rw [List.drop_of_length_le h]; rfl
def findN (s : List Int) : Int := if 0 > idxF namesL s 0 then 0 else idxF namesL s 0
def findB (s : List Int) : Bool := decide (0 ≤ idxF namesL s 0)
abbrev fieldT : Ty := (.cons .str (.cons (.int .i64) (.cons (.int .i64) (.cons .bool (.cons (.int .i64) (.cons (.sl (.int .u64)) .nil))))))
def tab : List fieldT.den := [([105, 110, 95, 112, 111, 114, 116], 32, 4, false, -1, [], ()),
  ([105, 110, 95, 112, 104, 121, 95, 112, 111, 114, 116], 32, 4, false, 0, [], ()),
  ([109, 101, 116, 97, 100, 97, 116, 97], 64, 8, true, -1, [], ()),
  ([101, 116, 104, 95, 100, 115, 116], 48, 6, true, -1, [], ()),
  ([101, 116, 104, 95, 115, 114, 99], 48, 6, true, -1, [], ()),
  ([101, 116, 104, 95, 116, 121, 112, 101], 16, 2, false, -1, [], ()),
  ([118, 108, 97, 110, 95, 118, 105, 100], 13, 2, true, -1, [], ()),
  ([118, 108, 97, 110, 95, 112, 99, 112], 3, 1, false, 6, [], ()),
  ([105, 112, 95, 100, 115, 99, 112], 6, 1, false, 5, [2048, 34525], ()),
  ([105, 112, 95, 101, 99, 110], 2, 1, false, 5, [2048, 34525], ()),
  ([105, 112, 95, 112, 114, 111, 116, 111], 8, 1, false, 5, [2048, 34525], ()),
  ([105, 112, 118, 52, 95, 115, 114, 99], 32, 4, true, 5, [2048], ()),
  ([105, 112, 118, 52, 95, 100, 115, 116], 32, 4, true, 5, [2048], ()),
  ([116, 99, 112, 95, 115, 114, 99], 16, 2, false, 10, [6], ()),
  ([116, 99, 112, 95, 100, 115, 116], 16, 2, false, 10, [6], ()),
  ([117, 100, 112, 95, 115, 114, 99], 16, 2, false, 10, [17], ()),
  ([117, 100, 112, 95, 100, 115, 116], 16, 2, false, 10, [17], ()),
  ([115, 99, 116, 112, 95, 115, 114, 99], 16, 2, false, 10, [132], ()),
  ([115, 99, 116, 112, 95, 100, 115, 116], 16, 2, false, 10, [132], ()),
  ([105, 99, 109, 112, 118, 52, 95, 116, 121, 112, 101], 8, 1, false, 10, [1], ()),
  ([105, 99, 109, 112, 118, 52, 95, 99, 111, 100, 101], 8, 1, false, 10, [1], ()),
  ([97, 114, 112, 95, 111, 112], 16, 2, false, 5, [2054], ()),
  ([97, 114, 112, 95, 115, 112, 97], 32, 4, true, 5, [2054], ()),
  ([97, 114, 112, 95, 116, 112, 97], 32, 4, true, 5, [2054], ()),
  ([97, 114, 112, 95, 115, 104, 97], 48, 6, true, 5, [2054], ()),
  ([97, 114, 112, 95, 116, 104, 97], 48, 6, true, 5, [2054], ()),
  ([105, 112, 118, 54, 95, 115, 114, 99], 128, 16, true, 5, [34525], ()),
  ([105, 112, 118, 54, 95, 100, 115, 116], 128, 16, true, 5, [34525], ()),
  ([105, 112, 118, 54, 95, 102, 108, 97, 98, 101, 108], 20, 4, true, 5, [34525], ()),
  ([105, 99, 109, 112, 118, 54, 95, 116, 121, 112, 101], 8, 1, false, 10, [58], ()),
  ([105, 99, 109, 112, 118, 54, 95, 99, 111, 100, 101], 8, 1, false, 10, [58], ()),
  ([105, 112, 118, 54, 95, 110, 100, 95, 116, 97, 114, 103, 101, 116], 128, 16, false, 29, [135, 136], ()),
  ([105, 112, 118, 54, 95, 110, 100, 95, 115, 108, 108], 48, 6, false, 29, [135], ()),
  ([105, 112, 118, 54, 95, 110, 100, 95, 116, 108, 108], 48, 6, false, 29, [136], ()),
  ([109, 112, 108, 115, 95, 108, 97, 98, 101, 108], 20, 4, false, 5, [34887, 34888], ()),
  ([109, 112, 108, 115, 95, 116, 99], 3, 1, false, 5, [34887, 34888], ()),
  ([109, 112, 108, 115, 95, 98, 111, 115], 1, 1, false, 5, [34887, 34888], ()),
  ([112, 98, 98, 95, 105, 115, 105, 100], 24, 3, true, 5, [35047], ()),
  ([116, 117, 110, 110, 101, 108, 95, 105, 100], 64, 8, true, -1, [], ()),
  ([105, 112, 118, 54, 95, 101, 120, 116, 104, 100, 114], 9, 2, true, 5, [34525], ())]
def tabG (n : Int) : fieldT.den := tab.getD n.toNat fieldT.dflt
def nameR (n : Int) : List Int := if fIs n then (tabG n).1 else []
def bitsR (n : Int) : Int := if fIs n then (tabG n).2.1 else 0
def sizeR (n : Int) : Int := if fIs n then (tabG n).2.2.1 else 0
def maskR (n : Int) : Bool := if fIs n then (tabG n).2.2.2.1 else false
def needR (n : Int) : Int := if fIs n then (tabG n).2.2.2.2.1 else 0
def valsR (n : Int) : List Int := if fIs n then (tabG n).2.2.2.2.2.1 else []
abbrev ofR (n : Int) : AV := .tup [.agg [.str (nameR n), .int .i64 (bitsR n), .int .i64 (sizeR n), .bool (maskR n), .int .i64 (needR n), .imm (.int .u64) (valsR n)], .bool (fIs n)]
theorem tabL : tab.length = 40 := rfl
def spareF (s : Int) : List Int → Bool
  | [] => true
  | b :: r => if b.fdiv (2 ^ (min (8 - (if 8 < s then 8 else s)).toNat 8)) = 0 then spareF (s - (if 8 < s then 8 else s)) r else false
theorem spareF_step {s : Int} {v : List Int} {i : Nat} (h : i < v.length) : spareF s (v.drop i) = if (v.getD i 0).fdiv (2 ^ (min (8 - (if 8 < s then 8 else s)).toNat 8)) = 0 then spareF (s - (if 8 < s then 8 else s)) (v.drop (i + 1)) else false := by
  rw [List.drop_eq_getElem_cons h, List.getD_eq_getElem?_getD, List.getElem?_eq_getElem h]
  rfl
theorem spareF_end {s : Int} {v : List Int} {i : Nat} (h : v.length ≤ i) : spareF s (v.drop i) = true := by
  rw [List.drop_of_length_le h]; rfl
def fitsF (n : Int) (v : List Int) : Bool := if (0 ≤ n ∧ n < 40) ∧ (v.length : Int) = sizeF n then spareF (8 * sizeF n - bitsL.getD n.toNat 0) v else false
theorem size_le : ∀ k < 40, 1 ≤ sizeF (k : Nat) ∧ sizeF (k : Nat) ≤ 16 ∧ 0 ≤ 8 * sizeF (k : Nat) - bitsL.getD k 0 ∧ 8 * sizeF (k : Nat) - bitsL.getD k 0 ≤ 12 := by decide
def ir_field_Fits : IR :=
 (.seq
  (.keep [0, 1]
  (.reg ((⟨(some 4), .mov (.c (.kb false)), none⟩ : IOper) ::
    [])))
  (.seq
   (.seq
    (.keep [0, 1]
    (.reg ((⟨(some 9), .mov (.t 0), none⟩ : IOper) ::
      (⟨(some 10), .call false (.f 142) [(.t 9)], none⟩ : IOper) ::
      (⟨(some 11), .un .not (.t 10), none⟩ : IOper) ::
      (⟨(some 12), .mov (.t 11), none⟩ : IOper) ::
      (⟨(some 13), .mov (.t 1), (some (12, false))⟩ : IOper) ::
      (⟨(some 14), .len (.t 13), (some (12, false))⟩ : IOper) ::
      (⟨(some 15), .mov (.t 0), (some (12, false))⟩ : IOper) ::
      (⟨(some 16), .call false (.f 144) [(.t 15)], (some (12, false))⟩ : IOper) ::
      (⟨(some 17), .bin .neq (.t 14) (.t 16), (some (12, false))⟩ : IOper) ::
      (⟨(some 18), .pick (.t 12) (.c (.kb true)) (.t 17), none⟩ : IOper) ::
      [])))
    (.cond (.t 18)
     (.seq
      (.keep []
      (.reg ((⟨(some 4), .mov (.c (.kb false)), none⟩ : IOper) ::
        [])))
      .ret)
     .skip))
   (.seq
    (.keep [0, 1]
    (.reg ((⟨(some 19), .mov (.t 0), none⟩ : IOper) ::
      (⟨(some 20), .call false (.f 144) [(.t 19)], none⟩ : IOper) ::
      (⟨(some 21), .bin .mul (.c (.int .i64 8)) (.t 20), none⟩ : IOper) ::
      (⟨(some 22), .mov (.t 0), none⟩ : IOper) ::
      (⟨(some 23), .call false (.f 143) [(.t 22)], none⟩ : IOper) ::
      (⟨(some 24), .bin .sub (.t 21) (.t 23), none⟩ : IOper) ::
      (⟨(some 5), .mov (.t 24), none⟩ : IOper) ::
      [])))
    (.seq
     (.seq
      (.keep [1, 5]
      (.reg ((⟨(some 25), .mov (.t 1), none⟩ : IOper) ::
        (⟨(some 26), .len (.t 25), none⟩ : IOper) ::
        (⟨(some 27), .mov (.c (.int .i64 0)), none⟩ : IOper) ::
        [])))
      (.block 0
       (.loop
        (.seq
         (.keep [5, 25, 26, 27]
         (.reg ((⟨(some 28), .bin .lss (.t 27) (.t 26), none⟩ : IOper) ::
           [])))
         (.seq
          (.cond (.t 28)
           .skip
           (.exit 0))
          (.seq
           (.block 1
            (.seq
             (.reg ((⟨(some 29), .indexSl 1 (.t 25) (.t 27), none⟩ : IOper) ::
               (⟨(some 30), .load none (.t 29), none⟩ : IOper) ::
               (⟨(some 7), .mov (.t 30), none⟩ : IOper) ::
               []))
             (.seq
              (.reg ((⟨(some 31), .mov (.t 5), none⟩ : IOper) ::
                (⟨(some 32), .minmax false (.t 31) (.c (.int .i64 8)), none⟩ : IOper) ::
                (⟨(some 8), .mov (.t 32), none⟩ : IOper) ::
                []))
              (.seq
               (.seq
                (.keep [5, 7, 8, 25, 26, 27]
                (.reg ((⟨(some 33), .mov (.t 7), none⟩ : IOper) ::
                  (⟨(some 34), .mov (.t 8), none⟩ : IOper) ::
                  (⟨(some 35), .bin .sub (.c (.int .i64 8)) (.t 34), none⟩ : IOper) ::
                  (⟨(some 36), .bin .shr (.t 33) (.t 35), none⟩ : IOper) ::
                  (⟨(some 37), .bin .neq (.t 36) (.c (.int .u8 0)), none⟩ : IOper) ::
                  [])))
                (.cond (.t 37)
                 (.seq
                  (.reg ((⟨(some 4), .mov (.c (.kb false)), none⟩ : IOper) ::
                    []))
                  .ret)
                 .skip))
               (.keep [5, 8, 25, 26, 27]
               (.reg ((⟨(some 38), .mov (.t 5), none⟩ : IOper) ::
                 (⟨(some 39), .mov (.t 8), none⟩ : IOper) ::
                 (⟨(some 40), .bin .sub (.t 38) (.t 39), none⟩ : IOper) ::
                 (⟨(some 5), .mov (.t 40), none⟩ : IOper) ::
                 [])))))))
           (.keep [5, 25, 26, 27]
           (.reg ((⟨(some 41), .bin .add (.t 27) (.c (.int .i64 1)), none⟩ : IOper) ::
             (⟨(some 27), .mov (.t 41), none⟩ : IOper) ::
             [])))))))))
     (.seq
      (.keep []
      (.reg ((⟨(some 4), .mov (.c (.kb true)), none⟩ : IOper) ::
        [])))
      .ret)))))
def rd_field_Fits : List RD := [.tmp 4 true none]
theorem ok_field_Fits : fnOk Tryd.prog Tryd.f117 ir_field_Fits rd_field_Fits = true := by kernel_rfl
def S_field_Fits : List AV → List Obj → Option (Prop × AV)
  | [.int .i64 n, .imm (.int .u8) v], [] => some (True, .bool (fitsF n v))
  | _, _ => none
theorem snd_field_Fits : SoundS Tryd.prog 117 (RoF S_field_Fits).sum := by
  refine ro_fn Tryd.func117 ok_field_Fits (env_cons (s := RoF S_field_is) snd_field_is (env_cons (s := RoF S_field_size) snd_field_size (env_cons (s := RoF S_field_bits) snd_field_bits (env_nil _)))) fun args objs p v e => ?_
  unfold S_field_Fits at e
  split at e
  · rename_i n v
    cases e
    refine ⟨rfl, fun hw _ hp => ?_⟩
    have hl : v.length ≤ maxLen := (hw (.imm (.int .u8) v) (by simp)).2
    unfold maxLen at hl
    repeat' (intro t ht; first | (cases t <;> first | (cases ht; done) | ((try simp only [Bool.not_eq_eq_eq_not, Bool.not_true, Bool.not_false, Bool.and_eq_true, Bool.and_eq_false_iff, decide_eq_true_eq, decide_eq_false_iff_not] at ht); (try simp only [Int.toNat_natCast, dflt_int] at ht))) | (refine ht ?_ ?_ <;> clear ht) | (refine ht.1 ?_ ?_ <;> clear ht) | (refine ht ?_; clear ht))
    all_goals first
      | trivial
      | (intro r h1 h2; (try simp only [fIs_t, fIs_f, Int.toNat_natCast, dflt_int, decide_eq_true_eq, decide_eq_false_iff_not, Bool.not_eq_eq_eq_not, Bool.not_true, Bool.not_false, Bool.and_eq_true, Bool.and_eq_false_iff, min_i64, max_i64, min_u64, max_u64, min_u32, max_u32, min_u16, max_u16, min_u8, max_u8] at *)
         have hsz := size_le n.toNat (by omega)
         rw [Int.toNat_of_nonneg (by omega)] at hsz
         refine h2 ⟨[25, 26, 27, 5], Nat × Int, (fun p => p.1 ≤ v.length ∧ 0 ≤ p.2 ∧ p.2 ≤ 12 ∧ spareF (8 * sizeF n - bitsL.getD n.toNat 0) v = spareF p.2 (v.drop p.1)),
           fun a => [.imm (.int .u8) v, .int .i64 v.length, .int .i64 a.1, .int .i64 a.2], fun _ => [], fun a => v.length - a.1, ⟨(0, 8 * sizeF n - bitsL.getD n.toNat 0), ⟨Nat.zero_le _, hsz.2.2.1, hsz.2.2.2, rfl⟩, rfl, rfl⟩, ?_⟩
         clear h1 h2)
      | ((try simp only [fIs_t, fIs_f, Int.toNat_natCast, dflt_int, decide_eq_true_eq, decide_eq_false_iff_not, Bool.not_eq_eq_eq_not, Bool.not_true, Bool.not_false, Bool.and_eq_true, Bool.and_eq_false_iff, min_i64, max_i64, min_u64, max_u64, min_u32, max_u32, min_u16, max_u16, min_u8, max_u8] at *); omega)
      | ((try simp only [fIs_t, fIs_f, Int.toNat_natCast, dflt_int, decide_eq_true_eq, decide_eq_false_iff_not, Bool.not_eq_eq_eq_not, Bool.not_true, Bool.not_false, Bool.and_eq_true, Bool.and_eq_false_iff, min_i64, max_i64, min_u64, max_u64, min_u32, max_u32, min_u16, max_u16, min_u8, max_u8] at *); have hsz := size_le n.toNat (by omega)
         rw [Int.toNat_of_nonneg (by omega)] at hsz
         have hb := bits_le n.toNat (by omega)
         omega)
      | (refine ⟨?_, rfl⟩; (try simp only [fIs_t, fIs_f, Int.toNat_natCast, dflt_int, decide_eq_true_eq, decide_eq_false_iff_not, Bool.not_eq_eq_eq_not, Bool.not_true, Bool.not_false, Bool.and_eq_true, Bool.and_eq_false_iff, min_i64, max_i64, min_u64, max_u64, min_u32, max_u32, min_u16, max_u16, min_u8, max_u8] at *); unfold fitsF; rw [if_neg (by omega)])
    rintro ⟨i, s⟩ ⟨hi, hs0, hs1, he⟩
    dsimp only at hi hs0 hs1 he
    repeat' (intro t ht; first | (cases t <;> first | (cases ht; done) | ((try simp only [Bool.not_eq_eq_eq_not, Bool.not_true, Bool.not_false, Bool.and_eq_true, Bool.and_eq_false_iff, decide_eq_true_eq, decide_eq_false_iff_not] at ht); (try simp only [Int.toNat_natCast, dflt_int] at ht))) | (refine ht ?_ ?_ <;> clear ht) | (refine ht.1 ?_ ?_ <;> clear ht) | (refine ht ?_; clear ht))
    all_goals have hk : 0 ≤ (if (8 : Int) < s then 8 else s) ∧ (if (8 : Int) < s then 8 else s) ≤ 8 ∧ (if (8 : Int) < s then 8 else s) ≤ s := by split <;> omega
    all_goals have hv : (0 ≤ n ∧ n < 40) ∧ (v.length : Int) = sizeF n := ⟨by omega, by omega⟩
    all_goals first
      | (refine ⟨?_, rfl⟩; unfold fitsF; rw [if_pos hv, he]; (try simp only [fIs_t, fIs_f, Int.toNat_natCast, dflt_int, decide_eq_true_eq, decide_eq_false_iff_not, Bool.not_eq_eq_eq_not, Bool.not_true, Bool.not_false, Bool.and_eq_true, Bool.and_eq_false_iff, min_i64, max_i64, min_u64, max_u64, min_u32, max_u32, min_u16, max_u16, min_u8, max_u8] at *); rw [spareF_end (by omega)]; done)
      | (refine ⟨?_, rfl⟩; unfold fitsF; rw [if_pos hv, he]; (try simp only [fIs_t, fIs_f, Int.toNat_natCast, dflt_int, decide_eq_true_eq, decide_eq_false_iff_not, Bool.not_eq_eq_eq_not, Bool.not_true, Bool.not_false, Bool.and_eq_true, Bool.and_eq_false_iff, min_i64, max_i64, min_u64, max_u64, min_u32, max_u32, min_u16, max_u16, min_u8, max_u8] at *); rw [spareF_step (by omega), if_neg (by assumption)]; done)
      | ((try simp only [fIs_t, fIs_f, Int.toNat_natCast, dflt_int, decide_eq_true_eq, decide_eq_false_iff_not, Bool.not_eq_eq_eq_not, Bool.not_true, Bool.not_false, Bool.and_eq_true, Bool.and_eq_false_iff, min_i64, max_i64, min_u64, max_u64, min_u32, max_u32, min_u16, max_u16, min_u8, max_u8] at *); omega)
      | ((try simp only [fIs_t, fIs_f, Int.toNat_natCast, dflt_int, decide_eq_true_eq, decide_eq_false_iff_not, Bool.not_eq_eq_eq_not, Bool.not_true, Bool.not_false, Bool.and_eq_true, Bool.and_eq_false_iff, min_i64, max_i64, min_u64, max_u64, min_u32, max_u32, min_u16, max_u16, min_u8, max_u8] at *); generalize (if (8 : Int) < s then 8 else s) = k at *; omega)
      | (have hlt : i < v.length := by ((try simp only [fIs_t, fIs_f, Int.toNat_natCast, dflt_int, decide_eq_true_eq, decide_eq_false_iff_not, Bool.not_eq_eq_eq_not, Bool.not_true, Bool.not_false, Bool.and_eq_true, Bool.and_eq_false_iff, min_i64, max_i64, min_u64, max_u64, min_u32, max_u32, min_u16, max_u16, min_u8, max_u8] at *); omega)
         refine ⟨(i + 1, s - (if (8 : Int) < s then 8 else s)), ⟨hlt, by dsimp only; omega, by dsimp only; omega, by (try simp only [fIs_t, fIs_f, Int.toNat_natCast, dflt_int, decide_eq_true_eq, decide_eq_false_iff_not, Bool.not_eq_eq_eq_not, Bool.not_true, Bool.not_false, Bool.and_eq_true, Bool.and_eq_false_iff, min_i64, max_i64, min_u64, max_u64, min_u32, max_u32, min_u16, max_u16, min_u8, max_u8] at *); rw [he, spareF_step hlt, if_pos (by assumption)]⟩, by dsimp only; omega, rfl, rfl⟩)
  · cases e
end Go.Eng
