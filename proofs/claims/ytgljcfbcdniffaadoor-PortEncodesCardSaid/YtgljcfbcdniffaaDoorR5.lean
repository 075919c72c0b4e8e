/- Contracts of functions of the given program, told by plain Lean functions. No condition. -/
import Derived.Test.YtgljcfbcdniffaaDoorProg
import Derived.Test.YtgljcfbcdniffaaDoorESum
import Derived.KernelRfl
import Derived.Test.YtgljcfbcdniffaaDoorR4
namespace Go.Eng
open Go.Proofs
set_option linter.unusedVariables false
set_option linter.unusedSimpArgs false
set_option maxRecDepth 100000
set_option maxHeartbeats 1000000
def getA : List Int → List Int → List Int → List Int × Int
  | [], _, o => (o, 0)
  | n :: r, b, o => if (b.length : Int) < absI n then ([], 1) else if 0 < n then getA r (b.drop (absI n).toNat) (o ++ [numL (b.take (absI n).toNat)]) else if zeroL (b.take (absI n).toNat) = true then getA r (b.drop (absI n).toNat) o else ([], 2)
def getF (w b : List Int) : List Int × Int := if rightF w = true then getA w b [] else ([], 2)
def getL (w b : List Int) : List Int := (getF w b).1
def getK (w b : List Int) : Int := (getF w b).2
theorem getA_short {w b o : List Int} {i : Nat} (h : i < w.length) (h1 : (b.length : Int) < absI (w.getD i 0)) : getA (w.drop i) b o = ([], 1) := by
  rw [drop_step h 0]; exact if_pos h1
theorem getA_num {w b o : List Int} {i : Nat} (h : i < w.length) (h1 : ¬ (b.length : Int) < absI (w.getD i 0)) (h2 : 0 < w.getD i 0) : getA (w.drop i) b o = getA (w.drop (i + 1)) (b.drop (absI (w.getD i 0)).toNat) (o ++ [numL (b.take (absI (w.getD i 0)).toNat)]) := by
  rw [drop_step h 0]
  show (if (b.length : Int) < absI (w.getD i 0) then _ else _) = _
  rw [if_neg h1]; exact if_pos h2
theorem getA_zero {w b o : List Int} {i : Nat} (h : i < w.length) (h1 : ¬ (b.length : Int) < absI (w.getD i 0)) (h2 : ¬ 0 < w.getD i 0) (h3 : zeroL (b.take (absI (w.getD i 0)).toNat) = true) : getA (w.drop i) b o = getA (w.drop (i + 1)) (b.drop (absI (w.getD i 0)).toNat) o := by
  rw [drop_step h 0]
  show (if (b.length : Int) < absI (w.getD i 0) then _ else _) = _
  rw [if_neg h1]
  show (if 0 < w.getD i 0 then _ else _) = _
  rw [if_neg h2]; exact if_pos h3
theorem getA_odd {w b o : List Int} {i : Nat} (h : i < w.length) (h1 : ¬ (b.length : Int) < absI (w.getD i 0)) (h2 : ¬ 0 < w.getD i 0) (h3 : zeroL (b.take (absI (w.getD i 0)).toNat) = false) : getA (w.drop i) b o = ([], 2) := by
  rw [drop_step h 0]
  show (if (b.length : Int) < absI (w.getD i 0) then _ else _) = _
  rw [if_neg h1]
  show (if 0 < w.getD i 0 then _ else _) = _
  rw [if_neg h2]; exact if_neg (by rw [h3]; simp)
def ir_row_Get : IR :=
 (.seq
  (.keep [0, 1]
  (.reg ((⟨(some 4), .nilrow (.int .u64), none⟩ : IOper) ::
    (⟨(some 5), .mov (.c (.int .i64 0)), none⟩ : IOper) ::
    [])))
  (.seq
   (.seq
    (.reg ((⟨(some 10), .mov (.t 0), none⟩ : IOper) ::
      (⟨(some 11), .call false (.f 139) [(.t 10)], none⟩ : IOper) ::
      (⟨(some 12), .un .not (.t 11), none⟩ : IOper) ::
      []))
    (.cond (.t 12)
     (.seq
      (.reg ((⟨(some 4), .nilrow (.int .u64), none⟩ : IOper) ::
        (⟨(some 5), .mov (.c (.int .i64 2)), none⟩ : IOper) ::
        []))
      .ret)
     .skip))
   (.seq
    (.keep [0, 1]
    (.reg ((⟨(some 6), .nilrow (.int .u64), none⟩ : IOper) ::
      [])))
    (.seq
     (.seq
      (.reg ((⟨(some 13), .mov (.t 0), none⟩ : IOper) ::
        (⟨(some 14), .len (.t 13), none⟩ : IOper) ::
        (⟨(some 15), .mov (.c (.int .i64 0)), none⟩ : IOper) ::
        []))
      (.block 0
       (.loop
        (.seq
         (.keep [1, 6, 13, 14, 15]
         (.reg ((⟨(some 16), .bin .lss (.t 15) (.t 14), none⟩ : IOper) ::
           [])))
         (.seq
          (.cond (.t 16)
           .skip
           (.exit 0))
          (.seq
           (.block 1
            (.seq
             (.reg ((⟨(some 17), .indexSl 1 (.t 13) (.t 15), none⟩ : IOper) ::
               (⟨(some 18), .load none (.t 17), none⟩ : IOper) ::
               (⟨(some 8), .mov (.t 18), none⟩ : IOper) ::
               []))
             (.seq
              (.keep [1, 6, 8, 13, 14, 15]
              (.reg ((⟨(some 19), .mov (.t 8), none⟩ : IOper) ::
                (⟨(some 20), .mov (.t 8), none⟩ : IOper) ::
                (⟨(some 21), .un .neg (.t 20), none⟩ : IOper) ::
                (⟨(some 22), .minmax true (.t 19) (.t 21), none⟩ : IOper) ::
                (⟨(some 9), .mov (.t 22), none⟩ : IOper) ::
                [])))
              (.seq
               (.block 2
                (.seq
                 (.keep [1, 6, 8, 9, 13, 14, 15]
                 (.reg ((⟨(some 24), .mov (.t 1), none⟩ : IOper) ::
                   (⟨(some 25), .len (.t 24), none⟩ : IOper) ::
                   (⟨(some 26), .mov (.t 9), none⟩ : IOper) ::
                   (⟨(some 27), .bin .lss (.t 25) (.t 26), none⟩ : IOper) ::
                   (⟨(some 23), .mov (.t 27), none⟩ : IOper) ::
                   [])))
                 (.cond (.t 23)
                  (.seq
                   (.reg ((⟨(some 4), .nilrow (.int .u64), none⟩ : IOper) ::
                     (⟨(some 5), .mov (.c (.int .i64 1)), none⟩ : IOper) ::
                     []))
                   .ret)
                  (.seq
                   (.reg ((⟨(some 29), .mov (.t 8), none⟩ : IOper) ::
                     (⟨(some 30), .bin .gtr (.t 29) (.c (.int .i64 0)), none⟩ : IOper) ::
                     (⟨(some 28), .mov (.t 30), none⟩ : IOper) ::
                     []))
                   (.cond (.t 28)
                    (.keep [1, 6, 9, 13, 14, 15]
                    (.reg ((⟨(some 31), .mov (.t 6), none⟩ : IOper) ::
                      (⟨(some 32), .mov (.t 1), none⟩ : IOper) ::
                      (⟨(some 33), .mov (.t 9), none⟩ : IOper) ::
                      (⟨(some 34), .slice 1 (.t 32) none (some (.t 33)) none, none⟩ : IOper) ::
                      (⟨(some 35), .call false (.f 140) [(.t 34)], none⟩ : IOper) ::
                      (⟨(some 36), .sliceAll (.int .u64) 1 [(0, 1, (.t 35))], none⟩ : IOper) ::
                      (⟨(some 37), .append (.int .u64) 8 (.t 31) (.t 36), none⟩ : IOper) ::
                      (⟨(some 6), .mov (.t 37), none⟩ : IOper) ::
                      [])))
                    (.seq
                     (.keep [1, 6, 9, 13, 14, 15]
                     (.reg ((⟨(some 39), .mov (.t 1), none⟩ : IOper) ::
                       (⟨(some 40), .mov (.t 9), none⟩ : IOper) ::
                       (⟨(some 41), .slice 1 (.t 39) none (some (.t 40)) none, none⟩ : IOper) ::
                       (⟨(some 42), .call false (.f 141) [(.t 41)], none⟩ : IOper) ::
                       (⟨(some 43), .un .not (.t 42), none⟩ : IOper) ::
                       (⟨(some 38), .mov (.t 43), none⟩ : IOper) ::
                       [])))
                     (.cond (.t 38)
                      (.seq
                       (.keep []
                       (.reg ((⟨(some 4), .nilrow (.int .u64), none⟩ : IOper) ::
                         (⟨(some 5), .mov (.c (.int .i64 2)), none⟩ : IOper) ::
                         [])))
                       .ret)
                      .skip)))))))
               (.keep [1, 6, 9, 13, 14, 15]
               (.reg ((⟨(some 44), .mov (.t 1), none⟩ : IOper) ::
                 (⟨(some 45), .mov (.t 9), none⟩ : IOper) ::
                 (⟨(some 46), .slice 1 (.t 44) (some (.t 45)) none none, none⟩ : IOper) ::
                 (⟨(some 1), .mov (.t 46), none⟩ : IOper) ::
                 [])))))))
           (.keep [1, 6, 13, 14, 15]
           (.reg ((⟨(some 47), .bin .add (.t 15) (.c (.int .i64 1)), none⟩ : IOper) ::
             (⟨(some 15), .mov (.t 47), none⟩ : IOper) ::
             [])))))))))
     (.seq
      (.keep [6]
      (.reg ((⟨(some 48), .mov (.t 6), none⟩ : IOper) ::
        (⟨(some 4), .mov (.t 48), none⟩ : IOper) ::
        (⟨(some 5), .mov (.c (.int .i64 0)), none⟩ : IOper) ::
        [])))
      .ret)))))
def rd_row_Get : List RD := [.tmp 4 true (some (.int .u64)), .tmp 5 true none]
theorem ok_row_Get : fnOk Tryd.prog Tryd.f114 ir_row_Get rd_row_Get = true := by kernel_rfl
def S_row_Get : List AV → List Obj → Option (Prop × AV)
  | [.imm (.int .i64) w, .imm (.int .u8) b], [] => some ((True, .tup [.imm (.int .u64) (getL w b), .int .i64 (getK w b)]))
  | _, _ => none
theorem snd_row_Get : SoundS Tryd.prog 114 (RoF S_row_Get).sum := by
  refine ro_fn Tryd.func114 ok_row_Get (env_cons (s := RoF S_row_Right) snd_row_Right (env_cons (s := RoF S_row_number) snd_row_number (env_cons (s := RoF S_row_zero) snd_row_zero (env_nil _)))) fun args objs p v e => ?_
  unfold S_row_Get at e
  split at e
  · rename_i w b
    cases e
    refine ⟨rfl, fun hw ho hp => ?_⟩
    change List Int at w
    change List Int at b
    have hb : b.length ≤ maxLen := (hw (.imm (.int .u8) b) (by simp)).2
    unfold maxLen at hb
    repeat' (intro t ht; first | (cases t <;> first | (cases ht; done) | ((try simp only [Bool.not_eq_eq_eq_not, Bool.not_true, Bool.not_false, Bool.and_eq_true, Bool.and_eq_false_iff, decide_eq_true_eq, decide_eq_false_iff_not] at ht); (try simp only [Int.toNat_natCast, dflt_int] at ht))) | (refine ht ?_ ?_ <;> clear ht) | (refine ht.1 ?_ ?_ <;> clear ht) | (refine ht ?_; clear ht))
    all_goals first
      | exact True.intro
      | (intro r h1 h2; clear h1; refine h2 ⟨[1, 6, 13, 14, 15], Nat × List Int × List Int, (fun a => a.1 ≤ w.length ∧ a.2.1.length ≤ b.length ∧ a.2.2.length ≤ a.1 ∧ getA w b [] = getA (w.drop a.1) a.2.1 a.2.2), fun a => [.imm (.int .u8) a.2.1, .own 0, .imm (.int .i64) w, .int .i64 w.length, .int .i64 a.1], fun a => [.row false (.int .u64) a.2.2], fun a => w.length - a.1, ⟨(0, b, []), ⟨Nat.zero_le _, Nat.le_refl _, Nat.zero_le _, rfl⟩, rfl, rfl⟩, ?_⟩; clear h2)
      | (have hr : rightF w = false := by assumption
         have hf : getF w b = ([], 2) := by unfold getF; rw [hr]; rfl
         refine ⟨?_, rfl⟩; unfold getL getK; rw [hf])
    rintro ⟨i, c, o⟩ ⟨hi, hc, ho, he⟩
    dsimp only at hi hc ho he
    have hr : rightF w = true := by assumption
    have hl := (rightF_t.1 hr).1
    repeat' (intro t ht; first | (cases t <;> first | (cases ht; done) | ((try simp only [Bool.not_eq_eq_eq_not, Bool.not_true, Bool.not_false, Bool.and_eq_true, Bool.and_eq_false_iff, decide_eq_true_eq, decide_eq_false_iff_not] at ht); (try simp only [Int.toNat_natCast, dflt_int] at ht))) | (refine ht ?_ ?_ <;> clear ht) | (refine ht.1 ?_ ?_ <;> clear ht) | (refine ht ?_; clear ht))
    all_goals first
      | ((try simp only [Int.toNat_natCast, dflt_int, decide_eq_true_eq, decide_eq_false_iff_not, Bool.not_eq_eq_eq_not, Bool.not_true, Bool.not_false, Bool.and_eq_true, Bool.and_eq_false_iff, min_i64, max_i64, min_u64, max_u64, min_u32, max_u32, min_u16, max_u16, min_u8, max_u8] at *); omega)
      | (have hge : w.length ≤ i := by omega
         rw [List.drop_of_length_le hge] at he
         have hf : getF w b = (o, 0) := by unfold getF; rw [if_pos hr, he]; rfl
         refine ⟨?_, rfl⟩; unfold getL getK; rw [hf]; done)
      | skip
    all_goals have hlt : i < w.length := by omega
    all_goals have hkk := (rightF_t.1 hr).2 _ (getD_mem' (α := Int) hlt 0)
    all_goals have ha := absI_le (n := w.getD i 0)
    all_goals have hA : (if 0 - w.getD i 0 > w.getD i 0 then 0 - w.getD i 0 else w.getD i 0) = absI (w.getD i 0) := rfl
    all_goals first
      | exact True.intro
      | ((try simp only [Int.toNat_natCast, dflt_int, decide_eq_true_eq, decide_eq_false_iff_not, Bool.not_eq_eq_eq_not, Bool.not_true, Bool.not_false, Bool.and_eq_true, Bool.and_eq_false_iff, min_i64, max_i64, min_u64, max_u64, min_u32, max_u32, min_u16, max_u16, min_u8, max_u8] at *); omega)
      | (have h1 : (c.length : Int) < absI (w.getD i 0) := by assumption
         have hf : getF w b = ([], 1) := by unfold getF; rw [if_pos hr, he]; exact getA_short hlt h1
         refine ⟨?_, rfl⟩; unfold getL getK; rw [hf]; done)
      | (have h1 : ¬ (c.length : Int) < absI (w.getD i 0) := by assumption
         first
           | (have h2 : ¬ 0 < w.getD i 0 := by assumption
              first
                | (have h3 : zeroL (c.take (absI (w.getD i 0)).toNat) = true := by assumption
                   refine ⟨(i + 1, c.drop (absI (w.getD i 0)).toNat, o), ⟨hlt, ?_, by dsimp only; omega, ?_⟩, by dsimp only; omega, rfl, rfl⟩
                   · dsimp only; rw [List.length_drop]; omega
                   · rw [he]; exact getA_zero hlt h1 h2 h3)
                | (have h3 : zeroL (c.take (absI (w.getD i 0)).toNat) = false := by assumption
                   have hf : getF w b = ([], 2) := by unfold getF; rw [if_pos hr, he]; exact getA_odd hlt h1 h2 h3
                   refine ⟨?_, rfl⟩; unfold getL getK; rw [hf]; done))
           | (have h2 : 0 < w.getD i 0 := by assumption
              first
                | (show (c.take (absI (w.getD i 0)).toNat).length ≤ 8; rw [List.length_take]; omega)
                | (simp only [cast_rfl, List.length_append, List.length_cons, List.length_nil]; omega)
                | (refine ⟨(i + 1, c.drop (absI (w.getD i 0)).toNat, o ++ [numL (c.take (absI (w.getD i 0)).toNat)]), ⟨hlt, ?_, ?_, ?_⟩, by dsimp only; omega, rfl, rfl⟩
                   · dsimp only; rw [List.length_drop]; omega
                   · simp only [List.length_append, List.length_cons, List.length_nil]; omega
                   · rw [he]; exact getA_num hlt h1 h2)))
      | trace_state
  · cases e
end Go.Eng
