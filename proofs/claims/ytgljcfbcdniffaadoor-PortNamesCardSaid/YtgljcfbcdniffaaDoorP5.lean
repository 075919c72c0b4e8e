/- Contracts of functions of the given program, told by plain Lean functions. No condition. -/
import Derived.Test.YtgljcfbcdniffaaDoorProg
import Derived.Test.YtgljcfbcdniffaaDoorESum
import Derived.KernelRfl
import Derived.Test.YtgljcfbcdniffaaDoorP4
import Derived.Test.YtgljcfbcdniffaaDoorC3
namespace Go.Eng
open Go.Proofs
set_option linter.unusedVariables false
set_option linter.unusedSimpArgs false
set_option maxRecDepth 100000
set_option maxHeartbeats 1000000
def ir_row_Get_k : IR :=
 (.seq
  (.keep [0, 1]
  (.reg ((⟨(some 4), .nilrow (.int .u64), none⟩ : IOper) ::
    (⟨(some 5), .mov (.c (.int .i64 0)), none⟩ : IOper) ::
    [])))
  (.seq
   (.seq
    (.reg ((⟨(some 10), .mov (.t 0), none⟩ : IOper) ::
      (⟨(some 11), .call false (.f 139) [(.t 10)], none⟩ : IOper) ::
      (⟨(some 12), .un .not (.t 11), none⟩ : IOper) ::
      []))
    (.cond (.t 12)
     (.seq
      (.reg ((⟨(some 4), .nilrow (.int .u64), none⟩ : IOper) ::
        (⟨(some 5), .mov (.c (.int .i64 2)), none⟩ : IOper) ::
        []))
      .ret)
     .skip))
   (.seq
    (.keep [0, 1]
    (.reg ((⟨(some 6), .nilrow (.int .u64), none⟩ : IOper) ::
      [])))
    (.seq
     (.seq
      (.reg ((⟨(some 13), .mov (.t 0), none⟩ : IOper) ::
        (⟨(some 14), .len (.t 13), none⟩ : IOper) ::
        (⟨(some 15), .mov (.c (.int .i64 0)), none⟩ : IOper) ::
        []))
      (.block 0
       (.loop
        (.seq
         (.keep [1, 6, 13, 14, 15]
         (.reg ((⟨(some 16), .bin .lss (.t 15) (.t 14), none⟩ : IOper) ::
           [])))
         (.seq
          (.cond (.t 16)
           .skip
           (.exit 0))
          (.seq
           (.block 1
            (.seq
             (.reg ((⟨(some 17), .indexSl 1 (.t 13) (.t 15), none⟩ : IOper) ::
               (⟨(some 18), .load none (.t 17), none⟩ : IOper) ::
               (⟨(some 8), .mov (.t 18), none⟩ : IOper) ::
               []))
             (.seq
              (.keep [1, 6, 8, 13, 14, 15]
              (.reg ((⟨(some 19), .mov (.t 8), none⟩ : IOper) ::
                (⟨(some 20), .mov (.t 8), none⟩ : IOper) ::
                (⟨(some 21), .un .neg (.t 20), none⟩ : IOper) ::
                (⟨(some 22), .minmax true (.t 19) (.t 21), none⟩ : IOper) ::
                (⟨(some 9), .mov (.t 22), none⟩ : IOper) ::
                [])))
              (.seq
               (.block 2
                (.seq
                 (.keep [1, 6, 8, 9, 13, 14, 15]
                 (.reg ((⟨(some 24), .mov (.t 1), none⟩ : IOper) ::
                   (⟨(some 25), .len (.t 24), none⟩ : IOper) ::
                   (⟨(some 26), .mov (.t 9), none⟩ : IOper) ::
                   (⟨(some 27), .bin .lss (.t 25) (.t 26), none⟩ : IOper) ::
                   (⟨(some 23), .mov (.t 27), none⟩ : IOper) ::
                   [])))
                 (.cond (.t 23)
                  (.seq
                   (.reg ((⟨(some 4), .nilrow (.int .u64), none⟩ : IOper) ::
                     (⟨(some 5), .mov (.c (.int .i64 1)), none⟩ : IOper) ::
                     []))
                   .ret)
                  (.seq
                   (.reg ((⟨(some 29), .mov (.t 8), none⟩ : IOper) ::
                     (⟨(some 30), .bin .gtr (.t 29) (.c (.int .i64 0)), none⟩ : IOper) ::
                     (⟨(some 28), .mov (.t 30), none⟩ : IOper) ::
                     []))
                   (.cond (.t 28)
                    (.keep [1, 6, 9, 13, 14, 15]
                    (.reg ((⟨(some 31), .mov (.t 6), none⟩ : IOper) ::
                      (⟨(some 32), .mov (.t 1), none⟩ : IOper) ::
                      (⟨(some 33), .mov (.t 9), none⟩ : IOper) ::
                      (⟨(some 34), .slice 1 (.t 32) none (some (.t 33)) none, none⟩ : IOper) ::
                      (⟨(some 35), .call false (.f 140) [(.t 34)], none⟩ : IOper) ::
                      (⟨(some 36), .sliceAll (.int .u64) 1 [(0, 1, (.t 35))], none⟩ : IOper) ::
                      (⟨(some 37), .append (.int .u64) 8 (.t 31) (.t 36), none⟩ : IOper) ::
                      (⟨(some 6), .mov (.t 37), none⟩ : IOper) ::
                      [])))
                    (.seq
                     (.keep [1, 6, 9, 13, 14, 15]
                     (.reg ((⟨(some 39), .mov (.t 1), none⟩ : IOper) ::
                       (⟨(some 40), .mov (.t 9), none⟩ : IOper) ::
                       (⟨(some 41), .slice 1 (.t 39) none (some (.t 40)) none, none⟩ : IOper) ::
                       (⟨(some 42), .call false (.f 141) [(.t 41)], none⟩ : IOper) ::
                       (⟨(some 43), .un .not (.t 42), none⟩ : IOper) ::
                       (⟨(some 38), .mov (.t 43), none⟩ : IOper) ::
                       [])))
                     (.cond (.t 38)
                      (.seq
                       (.keep []
                       (.reg ((⟨(some 4), .nilrow (.int .u64), none⟩ : IOper) ::
                         (⟨(some 5), .mov (.c (.int .i64 2)), none⟩ : IOper) ::
                         [])))
                       .ret)
                      .skip)))))))
               (.keep [1, 6, 9, 13, 14, 15]
               (.reg ((⟨(some 44), .mov (.t 1), none⟩ : IOper) ::
                 (⟨(some 45), .mov (.t 9), none⟩ : IOper) ::
                 (⟨(some 46), .slice 1 (.t 44) (some (.t 45)) none none, none⟩ : IOper) ::
                 (⟨(some 1), .mov (.t 46), none⟩ : IOper) ::
                 [])))))))
           (.keep [1, 6, 13, 14, 15]
           (.reg ((⟨(some 47), .bin .add (.t 15) (.c (.int .i64 1)), none⟩ : IOper) ::
             (⟨(some 15), .mov (.t 47), none⟩ : IOper) ::
             [])))))))))
     (.seq
      (.keep [6]
      (.reg ((⟨(some 48), .mov (.t 6), none⟩ : IOper) ::
        (⟨(some 4), .mov (.t 48), none⟩ : IOper) ::
        (⟨(some 5), .mov (.c (.int .i64 0)), none⟩ : IOper) ::
        [])))
      .ret)))))
def rd_row_Get_k : List RD := [.tmp 4 false none, .tmp 5 false none]
theorem ok_row_Get_k : fnOk Tryd.prog Tryd.f114 ir_row_Get_k rd_row_Get_k = true := by kernel_rfl
def S_row_Get_k : List AV → List Obj → Option (Prop × AV × List Obj)
  | [.imm (.int .i64) w, .imm (.int .u8) b], [] => some ((True, .tup [.own 0, .int .i64 (getK w b)], [.row false (.int .u64) (getL w b)]))
  | _, _ => none
theorem snd_row_Get_k : SoundS Tryd.prog 114 (RwF S_row_Get_k).sum := by
  refine rw_fn Tryd.func114 ok_row_Get_k (env_cons (s := RoF S_row_Right) snd_row_Right (env_cons (s := RoF S_row_number) snd_row_number (env_cons (s := RoF S_row_zero) snd_row_zero (env_nil _)))) fun args objs p v o e => ?_
  unfold S_row_Get_k at e
  split at e
  · rename_i w b
    cases e
    refine ⟨rfl, fun hw ho hp => ?_⟩
    change List Int at w
    change List Int at b
    have hb : b.length ≤ maxLen := (hw (.imm (.int .u8) b) (by simp)).2
    unfold maxLen at hb
    repeat' (intro t ht; first | (cases t <;> first | (cases ht; done) | ((try simp only [Bool.not_eq_eq_eq_not, Bool.not_true, Bool.not_false, Bool.and_eq_true, Bool.and_eq_false_iff, decide_eq_true_eq, decide_eq_false_iff_not] at ht); (try simp only [Int.toNat_natCast, dflt_int] at ht))) | (refine ht ?_ ?_ <;> clear ht) | (refine ht.1 ?_ ?_ <;> clear ht) | (refine ht ?_; clear ht))
    all_goals first
      | exact True.intro
      | (intro r h1 h2; clear h1; refine h2 ⟨[1, 6, 13, 14, 15], Nat × List Int × List Int, (fun a => a.1 ≤ w.length ∧ a.2.1.length ≤ b.length ∧ a.2.2.length ≤ a.1 ∧ getA w b [] = getA (w.drop a.1) a.2.1 a.2.2), fun a => [.imm (.int .u8) a.2.1, .own 0, .imm (.int .i64) w, .int .i64 w.length, .int .i64 a.1], fun a => [.row false (.int .u64) a.2.2], fun a => w.length - a.1, ⟨(0, b, []), ⟨Nat.zero_le _, Nat.le_refl _, Nat.zero_le _, rfl⟩, rfl, rfl⟩, ?_⟩; clear h2)
      | (have hr : rightF w = false := by assumption
         have hf : getF w b = ([], 2) := by unfold getF; rw [hr]; rfl
         unfold getL getK; rw [hf]; exact ⟨rfl, rfl⟩)
    rintro ⟨i, c, o⟩ ⟨hi, hc, ho, he⟩
    dsimp only at hi hc ho he
    have hr : rightF w = true := by assumption
    have hl := (rightF_t.1 hr).1
    repeat' (intro t ht; first | (cases t <;> first | (cases ht; done) | ((try simp only [Bool.not_eq_eq_eq_not, Bool.not_true, Bool.not_false, Bool.and_eq_true, Bool.and_eq_false_iff, decide_eq_true_eq, decide_eq_false_iff_not] at ht); (try simp only [Int.toNat_natCast, dflt_int] at ht))) | (refine ht ?_ ?_ <;> clear ht) | (refine ht.1 ?_ ?_ <;> clear ht) | (refine ht ?_; clear ht))
    all_goals first
      | ((try simp only [Int.toNat_natCast, dflt_int, decide_eq_true_eq, decide_eq_false_iff_not, Bool.not_eq_eq_eq_not, Bool.not_true, Bool.not_false, Bool.and_eq_true, Bool.and_eq_false_iff, min_i64, max_i64, min_u64, max_u64, min_u32, max_u32, min_u16, max_u16, min_u8, max_u8] at *); omega)
      | (have hge : w.length ≤ i := by omega
         rw [List.drop_of_length_le hge] at he
         have hf : getF w b = (o, 0) := by unfold getF; rw [if_pos hr, he]; rfl
         unfold getL getK; rw [hf]; exact ⟨rfl, rfl⟩)
      | skip
    all_goals have hlt : i < w.length := by omega
    all_goals have hkk := (rightF_t.1 hr).2 _ (getD_mem' (α := Int) hlt 0)
    all_goals have ha := absI_le (n := w.getD i 0)
    all_goals have hA : (if 0 - w.getD i 0 > w.getD i 0 then 0 - w.getD i 0 else w.getD i 0) = absI (w.getD i 0) := rfl
    all_goals first
      | exact True.intro
      | ((try simp only [Int.toNat_natCast, dflt_int, decide_eq_true_eq, decide_eq_false_iff_not, Bool.not_eq_eq_eq_not, Bool.not_true, Bool.not_false, Bool.and_eq_true, Bool.and_eq_false_iff, min_i64, max_i64, min_u64, max_u64, min_u32, max_u32, min_u16, max_u16, min_u8, max_u8] at *); omega)
      | (have h1 : (c.length : Int) < absI (w.getD i 0) := by assumption
         have hf : getF w b = ([], 1) := by unfold getF; rw [if_pos hr, he]; exact getA_short hlt h1
         unfold getL getK; rw [hf]; exact ⟨rfl, rfl⟩)
      | (have h1 : ¬ (c.length : Int) < absI (w.getD i 0) := by assumption
         first
           | (have h2 : ¬ 0 < w.getD i 0 := by assumption
              first
                | (have h3 : zeroL (c.take (absI (w.getD i 0)).toNat) = true := by assumption
                   refine ⟨(i + 1, c.drop (absI (w.getD i 0)).toNat, o), ⟨hlt, ?_, by dsimp only; omega, ?_⟩, by dsimp only; omega, rfl, rfl⟩
                   · dsimp only; rw [List.length_drop]; omega
                   · rw [he]; exact getA_zero hlt h1 h2 h3)
                | (have h3 : zeroL (c.take (absI (w.getD i 0)).toNat) = false := by assumption
                   have hf : getF w b = ([], 2) := by unfold getF; rw [if_pos hr, he]; exact getA_odd hlt h1 h2 h3
                   unfold getL getK; rw [hf]; exact ⟨rfl, rfl⟩))
           | (have h2 : 0 < w.getD i 0 := by assumption
              first
                | (show (c.take (absI (w.getD i 0)).toNat).length ≤ 8; rw [List.length_take]; omega)
                | (simp only [cast_rfl, List.length_append, List.length_cons, List.length_nil]; omega)
                | (refine ⟨(i + 1, c.drop (absI (w.getD i 0)).toNat, o ++ [numL (c.take (absI (w.getD i 0)).toNat)]), ⟨hlt, ?_, ?_, ?_⟩, by dsimp only; omega, rfl, rfl⟩
                   · dsimp only; rw [List.length_drop]; omega
                   · simp only [List.length_append, List.length_cons, List.length_nil]; omega
                   · rw [he]; exact getA_num hlt h1 h2)))
      | trace_state
  · cases e
def ir_cursor_Cursor_Row_k : IR :=
 (.seq
  (.keep [0, 1]
  (.reg ((⟨(some 4), .nilrow (.int .u64), none⟩ : IOper) ::
    [])))
  (.seq
   (.seq
    (.reg ((⟨(some 7), .mov (.t 0), none⟩ : IOper) ::
      (⟨(some 8), .call false (.f 23) [(.t 7)], none⟩ : IOper) ::
      (⟨(some 9), .bin .neq (.t 8) (.c (.int .i64 0)), none⟩ : IOper) ::
      []))
    (.cond (.t 9)
     (.seq
      (.reg ((⟨(some 4), .nilrow (.int .u64), none⟩ : IOper) ::
        []))
      .ret)
     .skip))
   (.seq
    (.keep [0, 1]
    (.regD (((⟨(some 11), .mov (.t 1), none⟩, []) : IOper × List Nat) ::
      ((⟨(some 12), .mov (.t 0), none⟩, [0]) : IOper × List Nat) ::
      ((⟨(some 13), .nilck (.t 12), none⟩, [1]) : IOper × List Nat) ::
      ((⟨(some 14), .fieldAddr 0 (.t 13), none⟩, [2]) : IOper × List Nat) ::
      ((⟨(some 15), .load none (.t 14), none⟩, [3]) : IOper × List Nat) ::
      ((⟨(some 16), .mov (.t 0), none⟩, [0, 0, 0, 0, 0]) : IOper × List Nat) ::
      ((⟨(some 17), .nilck (.t 16), none⟩, [1, 0, 0, 0, 0]) : IOper × List Nat) ::
      ((⟨(some 18), .fieldAddr 1 (.t 17), none⟩, [2, 0, 0, 0, 0]) : IOper × List Nat) ::
      ((⟨(some 19), .load none (.t 18), none⟩, [3, 0, 0, 0, 0]) : IOper × List Nat) ::
      ((⟨(some 20), .slice 1 (.t 15) (some (.t 19)) none none, none⟩, [8]) : IOper × List Nat) ::
      ((⟨(some 21), .call false (.f 114) [(.t 11), (.t 20)], none⟩, []) : IOper × List Nat) ::
      ((⟨(some 10), .mov (.t 21), none⟩, []) : IOper × List Nat) ::
      ((⟨(some 22), .extract (.t 10) 0, none⟩, []) : IOper × List Nat) ::
      ((⟨(some 23), .extract (.t 10) 1, none⟩, [0]) : IOper × List Nat) ::
      ((⟨(some 5), .mov (.t 22), none⟩, [0]) : IOper × List Nat) ::
      ((⟨(some 6), .mov (.t 23), none⟩, []) : IOper × List Nat) ::
      [])))
    (.seq
     (.seq
      (.keep [0, 1, 5, 6]
      (.reg ((⟨(some 24), .mov (.t 6), none⟩ : IOper) ::
        [])))
      (.block 0
       (.seq
        (.reg ((⟨(some 35), .bin .eql (.t 24) (.c (.int .i64 1)), none⟩ : IOper) ::
          (⟨(some 34), .mov (.t 35), none⟩ : IOper) ::
          []))
        (.cond (.t 34)
         (.keep [0, 5]
         (.reg ((⟨(some 36), .mov (.t 0), none⟩ : IOper) ::
           (⟨(some 37), .mov (.t 0), none⟩ : IOper) ::
           (⟨(some 38), .nilck (.t 37), none⟩ : IOper) ::
           (⟨(some 39), .fieldAddr 2 (.t 38), none⟩ : IOper) ::
           (⟨(some 40), .load none (.t 39), none⟩ : IOper) ::
           (⟨(some 41), .call false (.f 55) [(.t 36), (.t 40)], none⟩ : IOper) ::
           [])))
         (.seq
          (.reg ((⟨(some 43), .bin .eql (.t 24) (.c (.int .i64 2)), none⟩ : IOper) ::
            (⟨(some 42), .mov (.t 43), none⟩ : IOper) ::
            []))
          (.cond (.t 42)
           (.keep [0, 5]
           (.reg ((⟨(some 44), .mov (.t 0), none⟩ : IOper) ::
             (⟨(some 45), .mov (.t 0), none⟩ : IOper) ::
             (⟨(some 46), .nilck (.t 45), none⟩ : IOper) ::
             (⟨(some 47), .fieldAddr 3 (.t 46), none⟩ : IOper) ::
             (⟨(some 48), .load none (.t 47), none⟩ : IOper) ::
             (⟨(some 49), .call false (.f 55) [(.t 44), (.t 48)], none⟩ : IOper) ::
             [])))
           (.keep [0, 1, 5]
           (.regD (((⟨(some 25), .mov (.t 0), none⟩, []) : IOper × List Nat) ::
             ((⟨(some 26), .nilck (.t 25), none⟩, []) : IOper × List Nat) ::
             ((⟨(some 27), .fieldAddr 1 (.t 26), none⟩, []) : IOper × List Nat) ::
             ((⟨(some 28), .load none (.t 27), none⟩, []) : IOper × List Nat) ::
             ((⟨(some 29), .mov (.t 1), none⟩, [0, 0, 0, 0]) : IOper × List Nat) ::
             ((⟨(some 30), .call false (.f 115) [(.t 29)], none⟩, [1, 0, 0, 0]) : IOper × List Nat) ::
             ((⟨(some 31), .bin .add (.t 28) (.t 30), none⟩, []) : IOper × List Nat) ::
             ((⟨(some 32), .nilck (.t 25), none⟩, []) : IOper × List Nat) ::
             ((⟨(some 33), .fieldAddr 1 (.t 32), none⟩, []) : IOper × List Nat) ::
             ((⟨none, .store 1 (.t 33) (.t 31), none⟩, []) : IOper × List Nat) ::
             [])))))))))
     (.seq
      (.keep [5]
      (.reg ((⟨(some 50), .mov (.t 5), none⟩ : IOper) ::
        (⟨(some 4), .mov (.t 50), none⟩ : IOper) ::
        [])))
      .ret)))))
def rd_cursor_Cursor_Row_k : List RD := [.tmp 4 false none]
theorem ok_cursor_Cursor_Row_k : fnOk Tryd.prog Tryd.f80 ir_cursor_Cursor_Row_k rd_cursor_Cursor_Row_k = true := by kernel_rfl
def S_cursor_Cursor_Row_k : List AV → List Obj → Option (Prop × AV × List Obj)
  | [.ptr 0 0, .imm (.int .i64) w], [.box [.imm (.int .u8) b, .int .i64 p, .int .i64 sh, .int .i64 od, .int .i64 e, .bool true]] => some ((0 ≤ p ∧ p ≤ b.length ∧ b.length ≤ 140737488355328, .own 1, [.box [.imm (.int .u8) b, .int .i64 (curP w b p e), .int .i64 sh, .int .i64 od, .int .i64 (curE w b p sh od e), .bool true], .row false (.int .u64) (curL w b p e)]))
  | _, _ => none
theorem snd_cursor_Cursor_Row_k : SoundS Tryd.prog 80 (RwF S_cursor_Cursor_Row_k).sum := by
  refine rw_fn Tryd.func80 ok_cursor_Cursor_Row_k (env_cons (s := RoF S_cursor_Cursor_Err) snd_cursor_Cursor_Err (env_cons (s := RwF S_row_Get_k) snd_row_Get_k (env_cons (s := RwF S_cursor_Cursor_Fail) snd_cursor_Cursor_Fail (env_cons (s := RoF S_row_Size) snd_row_Size (env_nil _))))) fun args objs p v o e => ?_
  unfold S_cursor_Cursor_Row_k at e
  split at e
  · rename_i w b p sh od e
    cases e
    refine ⟨rfl, fun hw ho hp => ?_⟩
    change List Int at w
    change List Int at b
    have hz := sizeW_le w
    repeat' (intro t ht; first | (cases t <;> first | (cases ht; done) | ((try simp only [Bool.not_eq_eq_eq_not, Bool.not_true, Bool.not_false, Bool.and_eq_true, Bool.and_eq_false_iff, decide_eq_true_eq, decide_eq_false_iff_not] at ht); (try simp only [Int.toNat_natCast, dflt_int] at ht))) | (refine ht ?_ ?_ <;> clear ht) | (refine ht.1 ?_ ?_ <;> clear ht) | (refine ht ?_; clear ht))
    all_goals first
      | exact True.intro
      | ((try simp only [Int.toNat_natCast, dflt_int, decide_eq_true_eq, decide_eq_false_iff_not, Bool.not_eq_eq_eq_not, Bool.not_true, Bool.not_false, Bool.and_eq_true, Bool.and_eq_false_iff, min_i64, max_i64, min_u64, max_u64, min_u32, max_u32, min_u16, max_u16, min_u8, max_u8] at *); omega)
      | (refine ⟨rfl, ?_⟩; unfold curL curP curE; simp_all [failE]; done)
      | trace_state
  · cases e
theorem getA_out : ∀ (w b o : List Int), (getA w b o).1.length ≤ o.length + w.length
  | [], b, o => by simp [getA]
  | n :: r, b, o => by
    simp only [getA]
    split
    · simp
    · split
      · have ih := getA_out r (b.drop (absI n).toNat) (o ++ [numL (b.take (absI n).toNat)])
        simp only [List.length_append, List.length_cons, List.length_nil] at ih ⊢; omega
      · split
        · have ih := getA_out r (b.drop (absI n).toNat) o
          simp only [List.length_cons]; omega
        · simp
theorem curL_le (w b : List Int) (p e : Int) : (curL w b p e).length ≤ w.length := by
  unfold curL getL getF
  split
  · split
    · have := getA_out w (b.drop p.toNat) []; simpa using this
    · simp
  · simp
theorem getA_len : ∀ (w b o : List Int), ((getA w b o).2 = 0 ∨ (getA w b o).2 = 1 ∨ (getA w b o).2 = 2) ∧ ((getA w b o).2 = 0 → (w.map absI).sum ≤ b.length)
  | [], b, o => ⟨.inl rfl, fun _ => by simp⟩
  | n :: r, b, o => by
    have ha := absI_le (n := n)
    have hd : (b.drop (absI n).toNat).length = b.length - (absI n).toNat := List.length_drop
    simp only [getA]
    rw [List.map_cons, List.sum_cons]
    split
    · exact ⟨.inr (.inl rfl), fun h => by cases h⟩
    · split
      · have ih := getA_len r (b.drop (absI n).toNat) (o ++ [numL (b.take (absI n).toNat)])
        exact ⟨ih.1, fun h => by have := ih.2 h; omega⟩
      · split
        · have ih := getA_len r (b.drop (absI n).toNat) o
          exact ⟨ih.1, fun h => by have := ih.2 h; omega⟩
        · exact ⟨.inr (.inr rfl), fun h => by cases h⟩
theorem getK_len (w b : List Int) : (getK w b = 0 ∨ getK w b = 1 ∨ getK w b = 2) ∧ (getK w b = 0 → sizeW w ≤ b.length) := by
  unfold getK getF sizeW
  split
  · exact getA_len w b []
  · exact ⟨.inr (.inr rfl), fun h => by cases h⟩
theorem curP_le {w b : List Int} {p e : Int} (h0 : 0 ≤ p) (h1 : p ≤ b.length) : 0 ≤ curP w b p e ∧ curP w b p e ≤ b.length := by
  have hk := getK_len w (b.drop p.toNat)
  have hz := sizeW_le w
  have hd : (b.drop p.toNat).length = b.length - p.toNat := List.length_drop
  unfold curP
  by_cases he : e = 0
  · rw [if_pos he]
    by_cases h2 : getK w (b.drop p.toNat) = 1
    · rw [if_pos h2]; exact ⟨h0, h1⟩
    · rw [if_neg h2]
      by_cases h3 : getK w (b.drop p.toNat) = 2
      · rw [if_pos h3]; exact ⟨h0, h1⟩
      · rw [if_neg h3]
        have := hk.2 (by omega)
        omega
  · rw [if_neg he]; exact ⟨h0, h1⟩
theorem takeP_le {n : Int} {b : List Int} {p sh e : Int} (h0 : 0 ≤ p) (h1 : p ≤ b.length) (hs : sh ≠ 0) : 0 ≤ takeP n b p sh e ∧ takeP n b p sh e ≤ b.length := by
  have h2 : failE e 10001 ≠ 0 := failE_ne (by decide)
  have h3 : failE e sh ≠ 0 := failE_ne hs
  unfold takeP
  by_cases h : takeE n b p sh e = 0
  · rw [if_pos h]
    unfold takeE at h
    by_cases hn : n < 0
    · rw [if_pos hn] at h; exact absurd h h2
    · rw [if_neg hn] at h
      by_cases hl : (b.length : Int) - p < n
      · rw [if_pos hl] at h; exact absurd h h3
      · omega
  · rw [if_neg h]; exact ⟨h0, h1⟩
theorem ctR_le {s : List Int} {c : Int} : (ctR s c).length ≤ s.length := by
  unfold ctR; split
  · rw [List.length_drop]; omega
  · simp
theorem takeL_le {n : Int} {b : List Int} {p sh e : Int} : (takeL n b p sh e).length ≤ b.length := by
  unfold takeL; split
  · rw [List.length_drop, List.length_take]; omega
  · simp
def t1L (x : List Int) : List Int := curL pw1 x 0 0 ++ [0, 0]
def t1P (x : List Int) : Int := curP pw1 x 0 0
def t1E (x : List Int) : Int := curE pw1 x 0 263 269 0
def t2E (x : List Int) : Int := if (t1L x).getD 0 0 = 0 then failE (t1E x) 268 else t1E x
def t3N (x : List Int) : List Int := takeL 16 x (t1P x) 263 (t2E x)
def t3P (x : List Int) : Int := takeP 16 x (t1P x) 263 (t2E x)
def t3E (x : List Int) : Int := takeE 16 x (t1P x) 263 (t2E x)
def t4O (x : List Int) : Bool := (!ctK (t3N x) 0 || !nameF (ctB (t3N x) 0)) || decide (0 < (trimL (trimR (ctR (t3N x) 0) 0) 0).length)
def t4E (x : List Int) : Int := if t4O x = true then failE (t3E x) 269 else t3E x
def t5L (x : List Int) : List Int := curL pw2 x (t3P x) (t4E x)
def t5E (x : List Int) : Int := curE pw2 x (t3P x) 263 269 (t4E x)
def c8 (ys : List Int) (j : Nat) : Int := if j < ys.length then ys.getD j 0 else 0
def tV (x : List Int) : PV := ((t1L x).getD 0 0, (t1L x).getD 1 0, ctB (t3N x) 0, (c8 (t5L x) 0, c8 (t5L x) 1, c8 (t5L x) 2, c8 (t5L x) 3, c8 (t5L x) 4, c8 (t5L x) 5, c8 (t5L x) 6, c8 (t5L x) 7, ()), ())
def tkV (b : List Int) (p sh : Int) : PV := if (b.length : Int) - p < 64 then (0, 0, [], (0, 0, 0, 0, 0, 0, 0, 0, ()), ()) else tV (takeL 64 b p sh 0)
def tkP (b : List Int) (p sh : Int) : Int := if (b.length : Int) - p < 64 then p else takeP 64 b p sh 0
def tkE (b : List Int) (p sh : Int) : Int := if (b.length : Int) - p < 64 then 263 else failE (takeE 64 b p sh 0) (t5E (takeL 64 b p sh 0))
def ir_port_take : IR :=
 (.seq
  (.keep [0]
  (.reg ((⟨(some 2), .box [.int .u64 0, .int .u64 0, .str [], .int .u64 0, .int .u64 0, .int .u64 0, .int .u64 0, .int .u64 0, .int .u64 0, .int .u64 0, .int .u64 0], none⟩ : IOper) ::
    [])))
  (.seq
   (.seq
    (.reg ((⟨(some 8), .mov (.t 0), none⟩ : IOper) ::
      (⟨(some 9), .call false (.f 24) [(.t 8)], none⟩ : IOper) ::
      (⟨(some 10), .bin .lss (.t 9) (.c (.int .i64 64)), none⟩ : IOper) ::
      []))
    (.cond (.t 10)
     (.seq
      (.reg ((⟨(some 11), .mov (.t 0), none⟩ : IOper) ::
        (⟨(some 12), .call false (.f 55) [(.t 11), (.c (.int .i64 263))], none⟩ : IOper) ::
        []))
      (.seq
       (.keep [2]
       (.reg ((⟨(some 13), .load (some 11) (.t 2), none⟩ : IOper) ::
         (⟨none, .store 11 (.t 2) (.t 13), none⟩ : IOper) ::
         [])))
       .ret))
     .skip))
   (.seq
    (.reg ((⟨(some 14), .mov (.t 0), none⟩ : IOper) ::
      (⟨(some 15), .call false (.f 21) [(.t 14), (.c (.int .i64 64))], none⟩ : IOper) ::
      (⟨(some 16), .call false (.f 20) [(.t 15), (.c (.int .i64 263)), (.c (.int .i64 269))], none⟩ : IOper) ::
      (⟨(some 3), .mov (.t 16), none⟩ : IOper) ::
      []))
    (.seq
     (.keep [0, 2, 3]
     (.reg ((⟨(some 17), .mov (.t 3), none⟩ : IOper) ::
       (⟨(some 18), .sliceAll (.int .i64) 4 [(0, 1, (.c (.int .i64 4))), (1, 1, (.c (.int .i64 (-4)))), (2, 1, (.c (.int .i64 6))), (3, 1, (.c (.int .i64 (-2))))], none⟩ : IOper) ::
       (⟨(some 19), .call false (.f 80) [(.t 17), (.t 18)], none⟩ : IOper) ::
       (⟨(some 20), .sliceAll (.int .u64) 2 [(0, 1, (.c (.int .u64 0))), (1, 1, (.c (.int .u64 0)))], none⟩ : IOper) ::
       (⟨(some 21), .append (.int .u64) 8 (.t 19) (.t 20), none⟩ : IOper) ::
       (⟨(some 4), .mov (.t 21), none⟩ : IOper) ::
       [])))
     (.seq
      (.seq
       (.reg ((⟨(some 22), .mov (.t 4), none⟩ : IOper) ::
         (⟨(some 23), .indexSl 1 (.t 22) (.c (.int .i64 0)), none⟩ : IOper) ::
         (⟨(some 24), .load none (.t 23), none⟩ : IOper) ::
         (⟨(some 25), .bin .eql (.t 24) (.c (.int .u64 0)), none⟩ : IOper) ::
         []))
       (.cond (.t 25)
        (.keep [0, 2, 3, 4]
        (.reg ((⟨(some 26), .mov (.t 3), none⟩ : IOper) ::
          (⟨(some 27), .call false (.f 55) [(.t 26), (.c (.int .i64 268))], none⟩ : IOper) ::
          [])))
        .skip))
      (.seq
       (.keep [0, 2, 3, 4]
       (.reg ((⟨(some 29), .mov (.t 3), none⟩ : IOper) ::
         (⟨(some 30), .call false (.f 21) [(.t 29), (.c (.int .i64 16))], none⟩ : IOper) ::
         (⟨(some 31), .sliceAll (.int .u8) 1 [(0, 1, (.c (.int .u8 0)))], none⟩ : IOper) ::
         (⟨(some 32), .call false (.f 92) [(.t 30), (.t 31)], none⟩ : IOper) ::
         (⟨(some 28), .mov (.t 32), none⟩ : IOper) ::
         (⟨(some 33), .extract (.t 28) 0, none⟩ : IOper) ::
         (⟨(some 34), .extract (.t 28) 1, none⟩ : IOper) ::
         (⟨(some 35), .extract (.t 28) 2, none⟩ : IOper) ::
         (⟨(some 5), .mov (.t 33), none⟩ : IOper) ::
         (⟨(some 6), .mov (.t 34), none⟩ : IOper) ::
         (⟨(some 7), .mov (.t 35), none⟩ : IOper) ::
         [])))
       (.seq
        (.seq
         (.keep [0, 2, 3, 4, 5, 6, 7]
         (.reg ((⟨(some 36), .mov (.t 7), none⟩ : IOper) ::
           (⟨(some 37), .un .not (.t 36), none⟩ : IOper) ::
           (⟨(some 38), .mov (.t 37), none⟩ : IOper) ::
           (⟨(some 39), .mov (.t 5), (some (38, false))⟩ : IOper) ::
           (⟨(some 40), .b2s (.t 39), (some (38, false))⟩ : IOper) ::
           (⟨(some 41), .call false (.f 25) [(.t 40)], (some (38, false))⟩ : IOper) ::
           (⟨(some 42), .un .not (.t 41), (some (38, false))⟩ : IOper) ::
           (⟨(some 43), .pick (.t 38) (.c (.kb true)) (.t 42), none⟩ : IOper) ::
           (⟨(some 44), .mov (.t 43), none⟩ : IOper) ::
           (⟨(some 45), .mov (.t 6), (some (44, false))⟩ : IOper) ::
           (⟨(some 46), .call false (.f 93) [(.t 45), (.c (.str [0]))], (some (44, false))⟩ : IOper) ::
           (⟨(some 47), .len (.t 46), (some (44, false))⟩ : IOper) ::
           (⟨(some 48), .bin .gtr (.t 47) (.c (.int .i64 0)), (some (44, false))⟩ : IOper) ::
           (⟨(some 49), .pick (.t 44) (.c (.kb true)) (.t 48), none⟩ : IOper) ::
           [])))
         (.cond (.t 49)
          (.keep [0, 2, 3, 4, 5]
          (.reg ((⟨(some 50), .mov (.t 3), none⟩ : IOper) ::
            (⟨(some 51), .call false (.f 55) [(.t 50), (.c (.int .i64 269))], none⟩ : IOper) ::
            [])))
          .skip))
        (.seq
         (.keep [0, 2, 3, 4, 5]
         (.regD (((⟨(some 52), .mov (.t 4), none⟩, []) : IOper × List Nat) ::
           ((⟨(some 53), .indexSl 1 (.t 52) (.c (.int .i64 0)), none⟩, []) : IOper × List Nat) ::
           ((⟨(some 54), .load none (.t 53), none⟩, []) : IOper × List Nat) ::
           ((⟨(some 55), .mov (.t 4), none⟩, [0, 0, 0]) : IOper × List Nat) ::
           ((⟨(some 56), .indexSl 1 (.t 55) (.c (.int .i64 1)), none⟩, [1, 0, 0]) : IOper × List Nat) ::
           ((⟨(some 57), .load none (.t 56), none⟩, [2, 0, 0]) : IOper × List Nat) ::
           ((⟨(some 58), .mov (.t 5), none⟩, [0, 0, 0, 0, 0, 0]) : IOper × List Nat) ::
           ((⟨(some 59), .b2s (.t 58), none⟩, [1, 0, 0, 0, 0, 0]) : IOper × List Nat) ::
           ((⟨(some 60), .build [.int .u64 0, .int .u64 0, .str [], .int .u64 0, .int .u64 0, .int .u64 0, .int .u64 0, .int .u64 0, .int .u64 0, .int .u64 0, .int .u64 0] [(0, 1, (.t 54)), (1, 1, (.t 57)), (2, 1, (.t 59))], none⟩, []) : IOper × List Nat) ::
           ((⟨none, .store 11 (.t 2) (.t 60), none⟩, []) : IOper × List Nat) ::
           [])))
         (.seq
          (.keep [0, 2, 3]
          (.regD (((⟨(some 61), .fieldAddr 3 (.t 2), none⟩, []) : IOper × List Nat) ::
            ((⟨(some 62), .sarr (.int .u64) 8 (.t 61), none⟩, []) : IOper × List Nat) ::
            ((⟨(some 63), .mov (.t 3), none⟩, [0, 0]) : IOper × List Nat) ::
            ((⟨(some 64), .call false (.f 94) [], none⟩, [0, 0, 0]) : IOper × List Nat) ::
            ((⟨(some 65), .call false (.f 80) [(.t 63), (.t 64)], none⟩, [2, 0]) : IOper × List Nat) ::
            ((⟨(some 66), .copy (.int .u64) (.t 62) (.t 65), none⟩, []) : IOper × List Nat) ::
            [])))
          (.seq
           (.reg ((⟨(some 67), .mov (.t 0), none⟩ : IOper) ::
             (⟨(some 68), .mov (.t 3), none⟩ : IOper) ::
             (⟨(some 69), .call false (.f 23) [(.t 68)], none⟩ : IOper) ::
             (⟨(some 70), .call false (.f 55) [(.t 67), (.t 69)], none⟩ : IOper) ::
             []))
           (.seq
            (.keep [2]
            (.reg ((⟨(some 71), .load (some 11) (.t 2), none⟩ : IOper) ::
              (⟨none, .store 11 (.t 2) (.t 71), none⟩ : IOper) ::
              [])))
            .ret)))))))))))
def rd_port_take : List RD := [.cell 2 (some 11) true]
theorem ok_port_take : fnOk Tryd.prog Tryd.f54 ir_port_take rd_port_take = true := by kernel_rfl
def S_port_take : List AV → List Obj → Option (Prop × AV × List Obj)
  | [.ptr 0 0], [.box [.imm (.int .u8) b, .int .i64 p, .int .i64 sh, .int .i64 od, .int .i64 e, .bool true]] => some ((0 ≤ p ∧ p ≤ b.length ∧ b.length ≤ 140737488355328 ∧ sh ≠ 0 ∧ e = 0, .agg [.int .u64 ((tkV b p sh).1), .int .u64 ((tkV b p sh).2.1), .str ((tkV b p sh).2.2.1), .int .u64 ((tkV b p sh).2.2.2.1.1), .int .u64 ((tkV b p sh).2.2.2.1.2.1), .int .u64 ((tkV b p sh).2.2.2.1.2.2.1), .int .u64 ((tkV b p sh).2.2.2.1.2.2.2.1), .int .u64 ((tkV b p sh).2.2.2.1.2.2.2.2.1), .int .u64 ((tkV b p sh).2.2.2.1.2.2.2.2.2.1), .int .u64 ((tkV b p sh).2.2.2.1.2.2.2.2.2.2.1), .int .u64 ((tkV b p sh).2.2.2.1.2.2.2.2.2.2.2.1)], [.box [.imm (.int .u8) b, .int .i64 (tkP b p sh), .int .i64 sh, .int .i64 od, .int .i64 (tkE b p sh), .bool true]]))
  | _, _ => none
theorem snd_port_take : SoundS Tryd.prog 54 (RwF S_port_take).sum := by
  refine rw_fn Tryd.func54 ok_port_take (env_cons (s := RoF S_cursor_Cursor_Left) snd_cursor_Cursor_Left (env_cons (s := RwF S_cursor_Cursor_Fail) snd_cursor_Cursor_Fail (env_cons (s := RwF S_cursor_Cursor_Bytes) snd_cursor_Cursor_Bytes (env_cons (s := RwF S_cursor_New) snd_cursor_New (env_cons (s := RwF S_cursor_Cursor_Row_k) snd_cursor_Cursor_Row_k (env_cons (s := RoF S_bytes_Cut) snd_bytes_Cut (env_cons (s := RoF S_port_Name) snd_port_Name (env_cons (s := RoF S_bytes_Trim) snd_bytes_Trim (env_cons (s := RoF S_port_speeds) snd_port_speeds (env_cons (s := RoF S_cursor_Cursor_Err) snd_cursor_Cursor_Err (env_nil _))))))))))) fun args objs p v o e => ?_
  unfold S_port_take at e
  split at e
  · rename_i b p sh od e
    cases e
    refine ⟨rfl, fun hw ho hp => ?_⟩
    change List Int at b
    clear hw ho
    obtain ⟨hp0, hp1, hp2, hp3, rfl⟩ := hp
    have hx := takeL_le (n := 64) (b := b) (p := p) (sh := sh) (e := 0)
    have hc := curL_le pw1 (takeL 64 b p sh 0) 0 0
    unfold pw1 at hc
    simp only [List.length_cons, List.length_nil] at hc
    have hxl : (takeL 64 b p sh 0).length ≤ 140737488355328 := Nat.le_trans hx hp2
    have h1 := curP_le (w := [4, -4, 6, -2]) (b := takeL 64 b p sh 0) (p := 0) (e := 0) (Int.le_refl _) (by omega)
    repeat' (intro t ht; first | (cases t <;> first | (cases ht; done) | ((try simp only [Bool.not_eq_eq_eq_not, Bool.not_true, Bool.not_false, Bool.and_eq_true, Bool.and_eq_false_iff, decide_eq_true_eq, decide_eq_false_iff_not] at ht); (try simp only [Int.toNat_natCast, dflt_int] at ht); (try (exfalso; first | contradiction | omega)))) | (refine ht ?_ ?_ <;> clear ht) | (refine ht.1 ?_ ?_ <;> clear ht) | (refine ht ?_; clear ht))
    all_goals first
      | exact True.intro
      | exact ⟨hp0, hp1⟩
      | exact ⟨hp0, hp1, hp2, hp3⟩
      | exact rfl
      | exact hxl
      | exact ⟨Int.le_refl _, by omega, hxl⟩
      | exact ⟨h1.1, h1.2, hxl, by decide⟩
      | (simp only [cast_rfl, List.length_append, List.length_cons, List.length_nil]; omega)
      | exact Nat.le_trans ctR_le (Nat.le_trans takeL_le hxl)
      | (have h2 := takeP_le (n := 16) (e := curE [4, -4, 6, -2] (takeL 64 b p sh 0) 0 263 269 0) h1.1 h1.2 (show (263 : Int) ≠ 0 by decide)
         exact ⟨h2.1, h2.2, hxl⟩)
      | (have h2 := takeP_le (n := 16) (e := failE (curE [4, -4, 6, -2] (takeL 64 b p sh 0) 0 263 269 0) 268) h1.1 h1.2 (show (263 : Int) ≠ 0 by decide)
         exact ⟨h2.1, h2.2, hxl⟩)
      | (have hs : (b.length : Int) - p < 64 := by assumption
         have hv : tkV b p sh = (0, 0, [], (0, 0, 0, 0, 0, 0, 0, 0, ()), ()) := if_pos hs
         have hP : tkP b p sh = p := if_pos hs
         have hE : tkE b p sh = 263 := if_pos hs
         rw [hv, hP, hE]; exact ⟨rfl, rfl⟩)
      | skip
    all_goals have hs : ¬ (b.length : Int) - p < 64 := by assumption
    all_goals have hv : tkV b p sh = tV (takeL 64 b p sh 0) := if_neg hs
    all_goals have hP : tkP b p sh = takeP 64 b p sh 0 := if_neg hs
    all_goals have hE : tkE b p sh = failE (takeE 64 b p sh 0) (t5E (takeL 64 b p sh 0)) := if_neg hs
    all_goals rw [hv, hP, hE]
    all_goals clear hv hP hE hs
    all_goals generalize takeL 64 b p sh 0 = x at *
    all_goals first
      | (have h2 : t2E x = curE [4, -4, 6, -2] x 0 263 269 0 := if_neg (by assumption)
         cases h4 : t4O x with
         | true =>
           first
             | (exfalso; unfold t4O t3N t1P pw1 at h4; rw [h2] at h4; simp_all; done)
             | (have h5 : t4E x = failE (t3E x) 269 := if_pos h4
                unfold tV t5L t5E; rw [h5]; unfold t3N t3E t3P; rw [h2]; exact ⟨rfl, rfl⟩)
         | false =>
           first
             | (exfalso; unfold t4O t3N t1P pw1 at h4; rw [h2] at h4; simp_all; done)
             | (have h5 : t4E x = t3E x := by unfold t4E; rw [h4]; rfl
                unfold tV t5L t5E; rw [h5]; unfold t3N t3E t3P; rw [h2]; exact ⟨rfl, rfl⟩))
      | (have h2 : t2E x = failE (curE [4, -4, 6, -2] x 0 263 269 0) 268 := if_pos (by assumption)
         cases h4 : t4O x with
         | true =>
           first
             | (exfalso; unfold t4O t3N t1P pw1 at h4; rw [h2] at h4; simp_all; done)
             | (have h5 : t4E x = failE (t3E x) 269 := if_pos h4
                unfold tV t5L t5E; rw [h5]; unfold t3N t3E t3P; rw [h2]; exact ⟨rfl, rfl⟩)
         | false =>
           first
             | (exfalso; unfold t4O t3N t1P pw1 at h4; rw [h2] at h4; simp_all; done)
             | (have h5 : t4E x = t3E x := by unfold t4E; rw [h4]; rfl
                unfold tV t5L t5E; rw [h5]; unfold t3N t3E t3P; rw [h2]; exact ⟨rfl, rfl⟩))
      | trace_state
  · cases e
end Go.Eng
