/- Contracts of functions of the given program, told by plain Lean functions. No condition. -/
import Derived.Test.YtoejpijobbcooaaGreatDoorProg
import Derived.Test.YtoejpijobbcooaaGreatDoorEArg
import Derived.KernelRfl
import Derived.Test.YtoejpijobbcooaaGreatDoorA9
import Derived.Test.YtoejpijobbcooaaGreatDoorOA
import Derived.Test.YtoejpijobbcooaaGreatDoorR7
namespace Go.Eng
open Go.Proofs
set_option linter.unusedVariables false
set_option linter.unusedSimpArgs false
set_option maxRecDepth 100000
set_option maxHeartbeats 1000000
def ir_r01_Put_k : IR :=
(.seq
(.keep [0, 1]
(.reg (⟨some 4, .nilrow (.int .u8), none⟩ ::
⟨some 5, .mov (.c (.kb false)), none⟩ ::
[])))
(.seq
(.seq
(.keep [0, 1]
(.reg (⟨some 9, .mov (.t 0), none⟩ ::
⟨some 10, .call false (.f 106) [(.t 9)], none⟩ ::
⟨some 11, .un .not (.t 10), none⟩ ::
⟨some 12, .mov (.t 11), none⟩ ::
⟨some 13, .mov (.t 0), some (12, false)⟩ ::
⟨some 14, .call false (.f 122) [(.t 13)], some (12, false)⟩ ::
⟨some 15, .mov (.t 1), some (12, false)⟩ ::
⟨some 16, .len (.t 15), some (12, false)⟩ ::
⟨some 17, .bin .neq (.t 14) (.t 16), some (12, false)⟩ ::
⟨some 18, .pick (.t 12) (.c (.kb true)) (.t 17), none⟩ ::
[])))
(.cond (.t 18)
(.seq
(.keep []
(.reg (⟨some 4, .nilrow (.int .u8), none⟩ ::
⟨some 5, .mov (.c (.kb false)), none⟩ ::
[])))
.ret)
.skip))
(.seq
(.keep [0, 1]
(.reg (⟨some 6, .nilrow (.int .u8), none⟩ ::
[])))
(.seq
(.reg (⟨some 7, .mov (.c (.int .i64 0)), none⟩ ::
[]))
(.seq
(.seq
(.reg (⟨some 8, .mov (.c (.int .i64 0)), none⟩ ::
[]))
(.block 0
(.loop
(.seq
(.seq
(.keep [0, 1, 6, 7, 8]
(.reg (⟨some 19, .mov (.t 8), none⟩ ::
⟨some 20, .mov (.t 0), none⟩ ::
⟨some 21, .len (.t 20), none⟩ ::
⟨some 22, .bin .lss (.t 19) (.t 21), none⟩ ::
[])))
(.cond (.t 22)
.skip
(.exit 0)))
(.seq
(.block 1
(.seq
(.seq
(.keep [0, 1, 6, 7, 8]
(.reg (⟨some 25, .mov (.t 0), none⟩ ::
⟨some 26, .mov (.t 8), none⟩ ::
⟨some 27, .indexSl 1 (.t 25) (.t 26), none⟩ ::
⟨some 28, .load none (.t 27), none⟩ ::
⟨some 29, .bin .lss (.t 28) (.c (.int .i64 0)), none⟩ ::
[])))
(.cond (.t 29)
(.seq
(.keep [0, 1, 6, 7, 8]
(.reg (⟨some 30, .mov (.t 6), none⟩ ::
⟨some 31, .mov (.t 0), none⟩ ::
⟨some 32, .mov (.t 8), none⟩ ::
⟨some 33, .indexSl 1 (.t 31) (.t 32), none⟩ ::
⟨some 34, .load none (.t 33), none⟩ ::
⟨some 35, .un .neg (.t 34), none⟩ ::
⟨some 36, .appendz (.int .u8) 1 (0 : Int) (.t 30) (.t 35), none⟩ ::
⟨some 6, .mov (.t 36), none⟩ ::
[])))
(.exit 1))
.skip))
(.seq
(.seq
(.keep [0, 1, 6, 7, 8]
(.regD ((⟨some 37, .mov (.t 1), none⟩, []) ::
(⟨some 38, .mov (.t 7), none⟩, [0]) ::
(⟨some 39, .indexSl 1 (.t 37) (.t 38), none⟩, []) ::
(⟨some 40, .load none (.t 39), none⟩, []) ::
(⟨some 41, .mov (.t 0), none⟩, [0, 0, 0, 0]) ::
(⟨some 42, .mov (.t 8), none⟩, [0, 0, 0, 0, 0]) ::
(⟨some 43, .indexSl 1 (.t 41) (.t 42), none⟩, [2, 0, 0, 0]) ::
(⟨some 44, .load none (.t 43), none⟩, [3, 0, 0, 0]) ::
(⟨some 45, .call false (.f 123) [(.t 40), (.t 44)], none⟩, []) ::
(⟨some 46, .un .not (.t 45), none⟩, []) ::
[])))
(.cond (.t 46)
(.seq
(.keep []
(.reg (⟨some 4, .nilrow (.int .u8), none⟩ ::
⟨some 5, .mov (.c (.kb false)), none⟩ ::
[])))
.ret)
.skip))
(.seq
(.keep [0, 1, 6, 7, 8]
(.regD ((⟨some 47, .mov (.t 6), none⟩, []) ::
(⟨some 48, .mov (.t 1), none⟩, [0]) ::
(⟨some 49, .mov (.t 7), none⟩, [0, 0]) ::
(⟨some 50, .indexSl 1 (.t 48) (.t 49), none⟩, [2]) ::
(⟨some 51, .load none (.t 50), none⟩, [3]) ::
(⟨some 52, .mov (.t 0), none⟩, [0, 0, 0, 0, 0]) ::
(⟨some 53, .mov (.t 8), none⟩, [0, 0, 0, 0, 0, 0]) ::
(⟨some 54, .indexSl 1 (.t 52) (.t 53), none⟩, [2, 0, 0, 0, 0]) ::
(⟨some 55, .load none (.t 54), none⟩, [3, 0, 0, 0, 0]) ::
(⟨some 56, .call false (.f 44) [(.t 51), (.t 55)], none⟩, [8]) ::
(⟨some 57, .append (.int .u8) 1 (.t 47) (.t 56), none⟩, []) ::
(⟨some 6, .mov (.t 57), none⟩, []) ::
[])))
(.keep [0, 1, 6, 7, 8]
(.reg (⟨some 58, .mov (.t 7), none⟩ ::
⟨some 59, .bin .add (.t 58) (.c (.int .i64 1)), none⟩ ::
⟨some 7, .mov (.t 59), none⟩ ::
[])))))))
(.keep [0, 1, 6, 7, 8]
(.reg (⟨some 23, .mov (.t 8), none⟩ ::
⟨some 24, .bin .add (.t 23) (.c (.int .i64 1)), none⟩ ::
⟨some 8, .mov (.t 24), none⟩ ::
[]))))))))
(.seq
(.keep [6]
(.reg (⟨some 60, .mov (.t 6), none⟩ ::
⟨some 4, .mov (.t 60), none⟩ ::
⟨some 5, .mov (.c (.kb true)), none⟩ ::
[])))
.ret))))))
def rd_r01_Put_k : List RD := [.tmp 4 false none, .tmp 5 false none]
theorem ok_r01_Put_k : fnOk Tryz.prog Tryz.f95 ir_r01_Put_k rd_r01_Put_k = true := by kernel_rfl
def S_r01_Put_k : List AV → List Obj → Option (Prop × AV × List Obj)
  | [.imm (.int .i64) w, .imm (.int .u64) xs], [] => some ((True, .tup [.own 0, .bool (putK w xs)], [.row false (.int .u8) (putB w xs)]))
  | _, _ => none
theorem snd_r01_Put_k : SoundS Tryz.prog 95 (RwF S_r01_Put_k).sum := by
  refine rw_fn Tryz.func95 ok_r01_Put_k (env_cons (s := RoF S_r01_Right) snd_r01_Right (env_cons (s := RoF S_r01_Count) snd_r01_Count (env_cons (s := RoF S_r01_Fits) snd_r01_Fits (env_cons (s := RwF S_r01_Num) snd_r01_Num (env_nil _))))) fun args objs p v o e => ?_
  unfold S_r01_Put_k at e
  split at e
  · rename_i w xs
    cases e
    refine ⟨rfl, fun hw ho hp => ?_⟩
    change List Int at w
    change List Int at xs
    have hx : xs.length ≤ maxLen := (hw (.imm (.int .u64) xs) (by simp)).2
    unfold maxLen at hx
    repeat' (intro t ht; first | (cases t <;> first | (cases ht; done) | ((try simp only [Bool.not_eq_eq_eq_not, Bool.not_true, Bool.not_false, Bool.and_eq_true, Bool.and_eq_false_iff, decide_eq_true_eq, decide_eq_false_iff_not] at ht); (try simp only [Int.toNat_natCast, dflt_int] at ht))) | (refine ht ?_ ?_ <;> clear ht) | (refine ht.1 ?_ ?_ <;> clear ht) | (refine ht ?_; clear ht))
    all_goals first
      | exact True.intro
      | (intro r h1 h2; clear h1; refine h2 ⟨[0, 1, 6, 7, 8], Nat × Nat × List Int, (fun a => a.1 ≤ w.length ∧ (a.2.2.length : Int) = sumT absI w a.1 ∧ sumT oneI w a.1 = a.2.1 ∧ putA w xs [] = putA (w.drop a.1) (xs.drop a.2.1) a.2.2), fun a => [.imm (.int .i64) w, .imm (.int .u64) xs, .own 0, .int .i64 a.2.1, .int .i64 a.1], fun a => [.row false (.int .u8) a.2.2], fun a => w.length - a.1, ⟨(0, 0, []), ⟨Nat.zero_le _, rfl, rfl, rfl⟩, rfl, rfl⟩, ?_⟩; clear h2)
      | ((try simp only [Int.toNat_natCast, dflt_int, decide_eq_true_eq, decide_eq_false_iff_not, Bool.not_eq_eq_eq_not, Bool.not_true, Bool.not_false, Bool.and_eq_true, Bool.and_eq_false_iff, min_i64, max_i64, min_u64, max_u64, min_u32, max_u32, min_u16, max_u16, min_u8, max_u8] at *); omega)
      | (have hn : ¬ (rightF w = true ∧ countW w = xs.length) := fun h => by simp_all
         unfold putB putK putF; rw [if_neg hn]; exact ⟨rfl, rfl⟩)
      | trace_state
    rintro ⟨i, k, b⟩ ⟨hi, hb, hk, he⟩
    dsimp only at hi hb hk he
    have hr : rightF w = true := by assumption
    have hc : countW w = xs.length := by assumption
    have hsum : (w.map oneI).sum = xs.length := by unfold countW at hc; rwa [if_pos hr] at hc
    have hl := (rightF_t.1 hr).1
    have hs := sumT_abs hr i
    have h1 := sumT_one hr i
    repeat' (intro t ht; first | (cases t <;> first | (cases ht; done) | ((try simp only [Bool.not_eq_eq_eq_not, Bool.not_true, Bool.not_false, Bool.and_eq_true, Bool.and_eq_false_iff, decide_eq_true_eq, decide_eq_false_iff_not] at ht); (try simp only [Int.toNat_natCast, dflt_int] at ht))) | (refine ht ?_ ?_ <;> clear ht) | (refine ht.1 ?_ ?_ <;> clear ht) | (refine ht ?_; clear ht))
    all_goals first
      | ((try simp only [Int.toNat_natCast, dflt_int, decide_eq_true_eq, decide_eq_false_iff_not, Bool.not_eq_eq_eq_not, Bool.not_true, Bool.not_false, Bool.and_eq_true, Bool.and_eq_false_iff, min_i64, max_i64, min_u64, max_u64, min_u32, max_u32, min_u16, max_u16, min_u8, max_u8] at *); omega)
      | (have hge : w.length ≤ i := by omega
         rw [List.drop_of_length_le hge] at he
         have hf : putF w xs = some b := by unfold putF; rw [if_pos ⟨hr, hc⟩, he]; rfl
         unfold putB putK; rw [hf]; exact ⟨rfl, rfl⟩)
      | skip
    all_goals have hlt : i < w.length := by omega
    all_goals have hkk := (rightF_t.1 hr).2 _ (getD_mem' (α := Int) hlt 0)
    all_goals first
      | ((try simp only [Int.toNat_natCast, dflt_int, decide_eq_true_eq, decide_eq_false_iff_not, Bool.not_eq_eq_eq_not, Bool.not_true, Bool.not_false, Bool.and_eq_true, Bool.and_eq_false_iff, min_i64, max_i64, min_u64, max_u64, min_u32, max_u32, min_u16, max_u16, min_u8, max_u8] at *); omega)
      | (have hn : w.getD i 0 < 0 := by assumption
         have ha := absI_neg hn
         have h0 : oneI (w.getD i 0) = 0 := if_neg (by omega)
         have hbl := bytesN_len (n := 0) (w := 0 - w.getD i 0) (by omega)
         first
           | ((try simp only [Int.toNat_natCast, dflt_int, decide_eq_true_eq, decide_eq_false_iff_not, Bool.not_eq_eq_eq_not, Bool.not_true, Bool.not_false, Bool.and_eq_true, Bool.and_eq_false_iff, min_i64, max_i64, min_u64, max_u64, min_u32, max_u32, min_u16, max_u16, min_u8, max_u8] at *); omega)
           | (refine ⟨(i + 1, k, b ++ bytesN 0 (0 - w.getD i 0)), ⟨hlt, ?_, ?_, ?_⟩, by dsimp only; omega, rfl, ?_⟩
              · rw [sumT_step absI hlt, ha]; simp only [List.length_append]; omega
              · rw [sumT_step oneI hlt, h0]; dsimp only; omega
              · rw [he]; exact putA_neg hlt hn
              · dsimp only; rw [← bytesN_zero]; rfl))
      | (have hn : ¬ w.getD i 0 < 0 := by assumption
         have hlt2 := sumT_lt (w := w) (i := i) hlt (by omega)
         have h2 : k < xs.length := by omega
         first
           | ((try simp only [Int.toNat_natCast, dflt_int, decide_eq_true_eq, decide_eq_false_iff_not, Bool.not_eq_eq_eq_not, Bool.not_true, Bool.not_false, Bool.and_eq_true, Bool.and_eq_false_iff, min_i64, max_i64, min_u64, max_u64, min_u32, max_u32, min_u16, max_u16, min_u8, max_u8] at *); omega)
           | (have h8 := fitsN_put (by assumption) hkk.2.1
              have hf : putF w xs = none := by unfold putF; rw [if_pos ⟨hr, hc⟩, he]; exact putA_none hlt hn h2 h8.1 h8.2
              unfold putB putK; rw [hf]; exact ⟨rfl, rfl⟩)
           | (have h8 := fitsN_ok (by assumption)
              have ha := absI_nn hn
              have h0 : oneI (w.getD i 0) = 1 := if_pos (by omega)
              have hbl := bytesN_len (n := xs.getD k 0) (w := w.getD i 0) (by omega)
              first
                | (simp only [cast_rfl]; (try simp only [Int.toNat_natCast, dflt_int, decide_eq_true_eq, decide_eq_false_iff_not, Bool.not_eq_eq_eq_not, Bool.not_true, Bool.not_false, Bool.and_eq_true, Bool.and_eq_false_iff, min_i64, max_i64, min_u64, max_u64, min_u32, max_u32, min_u16, max_u16, min_u8, max_u8] at *); omega)
                | (refine ⟨(i + 1, k + 1, b ++ bytesN (xs.getD k 0) (w.getD i 0)), ⟨hlt, ?_, ?_, ?_⟩, by dsimp only; omega, rfl, rfl⟩
                   · rw [sumT_step absI hlt, ha]; simp only [List.length_append]; omega
                   · rw [sumT_step oneI hlt, h0]; dsimp only; omega
                   · rw [he]; exact putA_some hlt hn h2 h8)))
      | trace_state
  · cases e
def ir_r08_Bytes_k : IR :=
(.seq
(.keep [0]
(.reg (⟨some 1, .boxv (.t 0), none⟩ ::
⟨some 2, .nilrow (.int .u8), none⟩ ::
[])))
(.seq
(.reg (⟨some 3, .nilrow (.int .u8), none⟩ ::
[]))
(.seq
(.seq
(.reg (⟨some 5, .fieldAddr 0 (.t 1), none⟩ ::
⟨some 6, .load none (.t 5), none⟩ ::
⟨some 7, .bin .eql (.t 6) (.c (.int .i64 65535)), none⟩ ::
[]))
(.cond (.t 7)
(.keep [1]
(.reg (⟨some 8, .fieldAddr 3 (.t 1), none⟩ ::
⟨some 9, .load none (.t 8), none⟩ ::
⟨some 10, .call false (.f 44) [(.t 9), (.c (.int .i64 4))], none⟩ ::
⟨some 3, .mov (.t 10), none⟩ ::
[])))
.skip))
(.seq
(.keep [1, 3]
(.regD ((⟨some 11, .mov (.t 3), none⟩, []) ::
(⟨some 12, .fieldAddr 4 (.t 1), none⟩, [0]) ::
(⟨some 13, .load none (.t 12), none⟩, [1]) ::
(⟨some 14, .append (.int .u8) 1 (.t 11) (.t 13), none⟩, []) ::
(⟨some 15, .fieldAddr 5 (.t 1), none⟩, [0, 0, 0, 0]) ::
(⟨some 16, .load none (.t 15), none⟩, [1, 0, 0, 0]) ::
(⟨some 17, .append (.int .u8) 1 (.t 14) (.t 16), none⟩, []) ::
(⟨some 3, .mov (.t 17), none⟩, []) ::
[])))
(.seq
(.keep [1, 3]
(.reg (⟨some 18, .fieldAddr 1 (.t 1), none⟩ ::
⟨some 19, .load none (.t 18), none⟩ ::
⟨some 20, .bin .mul (.c (.int .i64 2)) (.t 19), none⟩ ::
⟨some 4, .mov (.t 20), none⟩ ::
[])))
(.seq
(.seq
(.reg (⟨some 21, .fieldAddr 2 (.t 1), none⟩ ::
⟨some 22, .load none (.t 21), none⟩ ::
[]))
(.cond (.t 22)
(.keep [1, 3, 4]
(.reg (⟨some 23, .mov (.t 4), none⟩ ::
⟨some 24, .bin .add (.t 23) (.c (.int .i64 1)), none⟩ ::
⟨some 4, .mov (.t 24), none⟩ ::
[])))
.skip))
(.seq
(.keep [1, 3, 4]
(.reg (⟨some 25, .fieldAddr 0 (.t 1), none⟩ ::
⟨some 26, .load none (.t 25), none⟩ ::
⟨some 27, .conv .u64 (.t 26), none⟩ ::
⟨some 28, .call false (.f 44) [(.t 27), (.c (.int .i64 2))], none⟩ ::
⟨some 29, .mov (.t 4), none⟩ ::
⟨some 30, .conv .u8 (.t 29), none⟩ ::
⟨some 31, .mov (.t 3), none⟩ ::
⟨some 32, .len (.t 31), none⟩ ::
⟨some 33, .conv .u8 (.t 32), none⟩ ::
⟨some 34, .sliceAll (.int .u8) 2 [(0, 1, (.t 30)), (1, 1, (.t 33))], none⟩ ::
⟨some 35, .append (.int .u8) 1 (.t 28) (.t 34), none⟩ ::
⟨some 36, .mov (.t 3), none⟩ ::
⟨some 37, .append (.int .u8) 1 (.t 35) (.t 36), none⟩ ::
⟨some 2, .mov (.t 37), none⟩ ::
[])))
.ret)))))))
def rd_r08_Bytes_k : List RD := [.tmp 2 false none]
theorem ok_r08_Bytes_k : fnOk Tryz.prog Tryz.f93 ir_r08_Bytes_k rd_r08_Bytes_k = true := by kernel_rfl
def S_r08_Bytes_k : List AV → List Obj → Option (Prop × AV × List Obj)
  | [.agg [.int .i64 c, .int .i64 f, .bool h, .int .u64 x, .imm (.int .u8) v, .imm (.int .u8) m]], [] => some ((0 ≤ f ∧ f ≤ 127 ∧ 0 ≤ c ∧ c ≤ 65535 ∧ v.length ≤ 100 ∧ m.length ≤ 100, .own 0, [.row false (.int .u8) (refB c f h x v m)]))
  | _, _ => none
theorem snd_r08_Bytes_k : SoundS Tryz.prog 93 (RwF S_r08_Bytes_k).sum := by
  refine rw_fn Tryz.func93 ok_r08_Bytes_k (env_cons (s := RwF S_r01_Num) snd_r01_Num (env_nil _)) fun args objs p v o e => ?_
  unfold S_r08_Bytes_k at e
  split at e
  · rename_i c f h x v m
    cases e
    refine ⟨rfl, fun hw ho hp => ?_⟩
    change List Int at v
    change List Int at m
    have hx := bytesN_len (n := x) (w := 4) (by decide)
    have hc2 := bytesN_len (n := c) (w := 2) (by decide)
    cases h <;> by_cases hc : c = 65535
    all_goals repeat' (intro t ht; first | (cases t <;> first | (cases ht; done) | ((try simp only [Bool.not_eq_eq_eq_not, Bool.not_true, Bool.not_false, Bool.and_eq_true, Bool.and_eq_false_iff, decide_eq_true_eq, decide_eq_false_iff_not] at ht); (try simp only [Int.toNat_natCast, dflt_int] at ht))) | (refine ht ?_ ?_ <;> clear ht) | (refine ht.1 ?_ ?_ <;> clear ht) | (refine ht ?_; clear ht))
    all_goals first
      | exact True.intro
      | exact (by decide)
      | contradiction
      | ((try simp only [Int.toNat_natCast, dflt_int, decide_eq_true_eq, decide_eq_false_iff_not, Bool.not_eq_eq_eq_not, Bool.not_true, Bool.not_false, Bool.and_eq_true, Bool.and_eq_false_iff, min_i64, max_i64, min_u64, max_u64, min_u32, max_u32, min_u16, max_u16, min_u8, max_u8] at *); omega)
      | (simp only [List.length_append, List.length_cons, List.length_nil, cast_rfl]; (try simp only [Int.toNat_natCast, dflt_int, decide_eq_true_eq, decide_eq_false_iff_not, Bool.not_eq_eq_eq_not, Bool.not_true, Bool.not_false, Bool.and_eq_true, Bool.and_eq_false_iff, min_i64, max_i64, min_u64, max_u64, min_u32, max_u32, min_u16, max_u16, min_u8, max_u8] at *); omega)
      | (refine ⟨rfl, ?_⟩; simp only [cast_rfl]; unfold refB bodyR; simp_all; done)
      | trace_state
  · cases e
def ir_r12_row : IR :=
(.seq
(.keep [0]
(.reg (⟨some 2, .mov (.c (.imm (.int .i64) [])), none⟩ ::
⟨some 3, .mov (.c (.kb false)), none⟩ ::
[])))
(.seq
(.seq
(.reg (⟨some 4, .mov (.t 0), none⟩ ::
[]))
(.block 0
(.seq
(.reg (⟨some 6, .bin .eql (.t 4) (.c (.int .i64 0)), none⟩ ::
⟨some 5, .mov (.t 6), none⟩ ::
[]))
(.cond (.t 5)
(.seq
(.reg (⟨some 7, .sliceAll (.int .i64) 3 [(0, 1, (.c (.int .i64 4))), (1, 1, (.c (.int .i64 2))), (2, 1, (.c (.int .i64 (-6))))], none⟩ ::
⟨some 2, .mov (.t 7), none⟩ ::
⟨some 3, .mov (.c (.kb true)), none⟩ ::
[]))
.ret)
(.seq
(.seq
(.reg (⟨some 9, .bin .eql (.t 4) (.c (.int .i64 22)), none⟩ ::
⟨some 8, .mov (.t 9), none⟩ ::
[]))
(.cond (.t 8)
.skip
(.seq
(.keep [4]
(.reg (⟨some 10, .bin .eql (.t 4) (.c (.int .i64 21)), none⟩ ::
⟨some 8, .mov (.t 10), none⟩ ::
[])))
(.cond (.t 8)
.skip
(.reg (⟨some 11, .bin .eql (.t 4) (.c (.int .i64 65535)), none⟩ ::
⟨some 8, .mov (.t 11), none⟩ ::
[]))))))
(.cond (.t 8)
(.seq
(.keep []
(.reg (⟨some 12, .sliceAll (.int .i64) 1 [(0, 1, (.c (.int .i64 4)))], none⟩ ::
⟨some 2, .mov (.t 12), none⟩ ::
⟨some 3, .mov (.c (.kb true)), none⟩ ::
[])))
.ret)
(.seq
(.seq
(.keep [4]
(.reg (⟨some 14, .bin .eql (.t 4) (.c (.int .i64 15)), none⟩ ::
⟨some 13, .mov (.t 14), none⟩ ::
[])))
(.cond (.t 13)
.skip
(.reg (⟨some 15, .bin .eql (.t 4) (.c (.int .i64 23)), none⟩ ::
⟨some 13, .mov (.t 15), none⟩ ::
[]))))
(.cond (.t 13)
(.seq
(.reg (⟨some 16, .sliceAll (.int .i64) 2 [(0, 1, (.c (.int .i64 1))), (1, 1, (.c (.int .i64 (-3))))], none⟩ ::
⟨some 2, .mov (.t 16), none⟩ ::
⟨some 3, .mov (.c (.kb true)), none⟩ ::
[]))
.ret)
(.seq
(.seq
(.reg (⟨some 18, .bin .eql (.t 4) (.c (.int .i64 11)), none⟩ ::
⟨some 17, .mov (.t 18), none⟩ ::
[]))
(.cond (.t 17)
.skip
(.seq
(.keep [4]
(.reg (⟨some 19, .bin .eql (.t 4) (.c (.int .i64 12)), none⟩ ::
⟨some 17, .mov (.t 19), none⟩ ::
[])))
(.cond (.t 17)
.skip
(.seq
(.reg (⟨some 20, .bin .eql (.t 4) (.c (.int .i64 16)), none⟩ ::
⟨some 17, .mov (.t 20), none⟩ ::
[]))
(.cond (.t 17)
.skip
(.seq
(.reg (⟨some 21, .bin .eql (.t 4) (.c (.int .i64 18)), none⟩ ::
⟨some 17, .mov (.t 21), none⟩ ::
[]))
(.cond (.t 17)
.skip
(.seq
(.keep [4]
(.reg (⟨some 22, .bin .eql (.t 4) (.c (.int .i64 24)), none⟩ ::
⟨some 17, .mov (.t 22), none⟩ ::
[])))
(.cond (.t 17)
.skip
(.reg (⟨some 23, .bin .eql (.t 4) (.c (.int .i64 27)), none⟩ ::
⟨some 17, .mov (.t 23), none⟩ ::
[]))))))))))))
(.cond (.t 17)
(.seq
(.keep []
(.reg (⟨some 24, .sliceAll (.int .i64) 1 [(0, 1, (.c (.int .i64 (-4))))], none⟩ ::
⟨some 2, .mov (.t 24), none⟩ ::
⟨some 3, .mov (.c (.kb true)), none⟩ ::
[])))
.ret)
(.seq
(.seq
(.keep [4]
(.reg (⟨some 26, .bin .eql (.t 4) (.c (.int .i64 17)), none⟩ ::
⟨some 25, .mov (.t 26), none⟩ ::
[])))
(.cond (.t 25)
.skip
(.seq
(.reg (⟨some 27, .bin .eql (.t 4) (.c (.int .i64 19)), none⟩ ::
⟨some 25, .mov (.t 27), none⟩ ::
[]))
(.cond (.t 25)
.skip
(.seq
(.reg (⟨some 28, .bin .eql (.t 4) (.c (.int .i64 20)), none⟩ ::
⟨some 25, .mov (.t 28), none⟩ ::
[]))
(.cond (.t 25)
.skip
(.keep [4]
(.reg (⟨some 29, .bin .eql (.t 4) (.c (.int .i64 26)), none⟩ ::
⟨some 25, .mov (.t 29), none⟩ ::
[])))))))))
(.cond (.t 25)
(.seq
(.keep []
(.reg (⟨some 30, .sliceAll (.int .i64) 2 [(0, 1, (.c (.int .i64 2))), (1, 1, (.c (.int .i64 (-2))))], none⟩ ::
⟨some 2, .mov (.t 30), none⟩ ::
⟨some 3, .mov (.c (.kb true)), none⟩ ::
[])))
.ret)
.skip))))))))))))
(.seq
(.keep []
(.reg (⟨some 2, .mov (.c (.imm (.int .i64) [])), none⟩ ::
⟨some 3, .mov (.c (.kb false)), none⟩ ::
[])))
.ret)))
def rd_r12_row : List RD := [.tmp 2 true (some (.int .i64)), .tmp 3 true none]
theorem ok_r12_row : fnOk Tryz.prog Tryz.f56 ir_r12_row rd_r12_row = true := by kernel_rfl
def S_r12_row : List AV → List Obj → Option (Prop × AV)
  | [.int .i64 q], [] => some ((True, .tup [.imm (.int .i64) (rowT q), .bool (rowK q)]))
  | _, _ => none
theorem snd_r12_row : SoundS Tryz.prog 56 (RoF S_r12_row).sum := by
  refine ro_fn Tryz.func56 ok_r12_row (env_nil _) fun args objs p v e => ?_
  unfold S_r12_row at e
  split at e
  · rename_i q
    cases e
    refine ⟨rfl, fun hw ho hp => ?_⟩
    clear hw ho
    repeat' (intro t ht; first | (cases t <;> first | (cases ht; done) | ((try simp only [Bool.not_eq_eq_eq_not, Bool.not_true, Bool.not_false, Bool.and_eq_true, Bool.and_eq_false_iff, decide_eq_true_eq, decide_eq_false_iff_not] at ht); (try simp only [Int.toNat_natCast, dflt_int] at ht); (try (exfalso; first | contradiction | omega)))) | (refine ht ?_ ?_ <;> clear ht) | (refine ht.1 ?_ ?_ <;> clear ht) | (refine ht ?_; clear ht))
    all_goals first
      | exact True.intro
      | (have h := rowT_no (t := q) (by omega)
         rw [h.1, h.2]; exact ⟨rfl, rfl⟩)
      | (subst_vars; exact ⟨rfl, rfl⟩)
      | (have h : q = 0 ∨ (q = 22 ∨ q = 21 ∨ q = 65535) ∨ (q = 15 ∨ q = 23) ∨ (q = 17 ∨ q = 19 ∨ q = 26 ∨ q = 20) ∨ (q = 11 ∨ q = 12 ∨ q = 16 ∨ q = 18 ∨ q = 24 ∨ q = 27) := by omega
         rcases h with rfl | (rfl | rfl | rfl) | (rfl | rfl) | (rfl | rfl | rfl | rfl) | (rfl | rfl | rfl | rfl | rfl | rfl) <;> first | (exfalso; omega) | exact ⟨rfl, rfl⟩)
      | trace_state
  · cases e
def ir_r12_asked : IR :=
(.seq
(.keep [0, 1]
(.reg (⟨some 4, .mov (.c (.int .i64 0)), none⟩ ::
[])))
(.seq
(.seq
(.reg (⟨some 5, .mov (.t 0), none⟩ ::
[]))
(.block 0
(.seq
(.reg (⟨some 7, .bin .eql (.t 5) (.c (.int .i64 0)), none⟩ ::
⟨some 6, .mov (.t 7), none⟩ ::
[]))
(.cond (.t 6)
(.seq
(.reg (⟨some 8, .mov (.t 1), none⟩ ::
⟨some 9, .bin .eql (.t 8) (.c (.int .u64 0)), none⟩ ::
[]))
(.cond (.t 9)
(.seq
(.keep []
(.reg (⟨some 4, .mov (.c (.int .i64 517)), none⟩ ::
[])))
.ret)
.skip))
(.seq
(.reg (⟨some 11, .bin .eql (.t 5) (.c (.int .i64 22)), none⟩ ::
⟨some 10, .mov (.t 11), none⟩ ::
[]))
(.cond (.t 10)
(.seq
(.keep [1]
(.reg (⟨some 12, .mov (.t 1), none⟩ ::
⟨some 13, .bin .gtr (.t 12) (.c (.int .u64 4294967040)), none⟩ ::
[])))
(.cond (.t 13)
(.seq
(.reg (⟨some 4, .mov (.c (.int .i64 522)), none⟩ ::
[]))
.ret)
.skip))
(.seq
(.keep [1, 5]
(.reg (⟨some 15, .bin .eql (.t 5) (.c (.int .i64 17)), none⟩ ::
⟨some 14, .mov (.t 15), none⟩ ::
[])))
(.cond (.t 14)
(.seq
(.keep [1]
(.reg (⟨some 16, .mov (.t 1), none⟩ ::
⟨some 17, .bin .neq (.t 16) (.c (.int .u64 33024)), none⟩ ::
⟨some 18, .mov (.t 17), none⟩ ::
⟨some 19, .mov (.t 1), some (18, true)⟩ ::
⟨some 20, .bin .neq (.t 19) (.c (.int .u64 34984)), some (18, true)⟩ ::
⟨some 21, .pick (.t 18) (.t 20) (.c (.kb false)), none⟩ ::
[])))
(.cond (.t 21)
(.seq
(.keep []
(.reg (⟨some 4, .mov (.c (.int .i64 518)), none⟩ ::
[])))
.ret)
.skip))
(.seq
(.reg (⟨some 23, .bin .eql (.t 5) (.c (.int .i64 19)), none⟩ ::
⟨some 22, .mov (.t 23), none⟩ ::
[]))
(.cond (.t 22)
(.seq
(.keep [1]
(.reg (⟨some 24, .mov (.t 1), none⟩ ::
⟨some 25, .bin .neq (.t 24) (.c (.int .u64 34887)), none⟩ ::
⟨some 26, .mov (.t 25), none⟩ ::
⟨some 27, .mov (.t 1), some (26, true)⟩ ::
⟨some 28, .bin .neq (.t 27) (.c (.int .u64 34888)), some (26, true)⟩ ::
⟨some 29, .pick (.t 26) (.t 28) (.c (.kb false)), none⟩ ::
[])))
(.cond (.t 29)
(.seq
(.keep []
(.reg (⟨some 4, .mov (.c (.int .i64 518)), none⟩ ::
[])))
.ret)
.skip))
(.seq
(.reg (⟨some 31, .bin .eql (.t 5) (.c (.int .i64 26)), none⟩ ::
⟨some 30, .mov (.t 31), none⟩ ::
[]))
(.cond (.t 30)
(.seq
(.keep [1]
(.reg (⟨some 32, .mov (.t 1), none⟩ ::
⟨some 33, .bin .neq (.t 32) (.c (.int .u64 35047)), none⟩ ::
[])))
(.cond (.t 33)
(.seq
(.reg (⟨some 4, .mov (.c (.int .i64 518)), none⟩ ::
[]))
.ret)
.skip))
.skip))))))))))))
(.seq
(.keep []
(.reg (⟨some 4, .mov (.c (.int .i64 0)), none⟩ ::
[])))
.ret)))
def rd_r12_asked : List RD := [.tmp 4 true none]
theorem ok_r12_asked : fnOk Tryz.prog Tryz.f59 ir_r12_asked rd_r12_asked = true := by kernel_rfl
def S_r12_asked : List AV → List Obj → Option (Prop × AV)
  | [.int .i64 q, .int .u64 n], [] => some ((True, .int .i64 (askF q n)))
  | _, _ => none
theorem snd_r12_asked : SoundS Tryz.prog 59 (RoF S_r12_asked).sum := by
  refine ro_fn Tryz.func59 ok_r12_asked (env_nil _) fun args objs p v e => ?_
  unfold S_r12_asked at e
  split at e
  · rename_i q n
    cases e
    refine ⟨rfl, fun hw ho hp => ?_⟩
    clear hw ho
    repeat' (intro t ht; first | (cases t <;> first | (cases ht; done) | ((try simp only [Bool.not_eq_eq_eq_not, Bool.not_true, Bool.not_false, Bool.and_eq_true, Bool.and_eq_false_iff, decide_eq_true_eq, decide_eq_false_iff_not] at ht); (try simp only [Int.toNat_natCast, dflt_int] at ht); (try (exfalso; first | contradiction | omega)))) | (refine ht ?_ ?_ <;> clear ht) | (refine ht.1 ?_ ?_ <;> clear ht) | (refine ht ?_; clear ht))
    all_goals first
      | exact True.intro
      | (refine ⟨congrArg (AV.int .i64) ?_, rfl⟩; unfold askF; repeat' split
         all_goals first | rfl | omega)
      | trace_state
  · cases e
def ir_r12_nums : IR :=
(.seq
(.keep [0, 1]
(.reg (⟨some 2, .boxv (.t 0), none⟩ ::
⟨some 4, .mov (.c (.imm (.int .u64) [])), none⟩ ::
[])))
(.seq
(.keep [1, 2]
(.reg (⟨some 6, .fieldAddr 1 (.t 2), none⟩ ::
⟨some 7, .load none (.t 6), none⟩ ::
⟨some 8, .fieldAddr 2 (.t 2), none⟩ ::
⟨some 9, .load none (.t 8), none⟩ ::
⟨some 10, .sliceAll (.int .u64) 2 [(0, 1, (.t 7)), (1, 1, (.t 9))], none⟩ ::
⟨some 5, .mov (.t 10), none⟩ ::
[])))
(.seq
(.keep [1, 5]
(.reg (⟨some 11, .mov (.t 5), none⟩ ::
⟨some 12, .mov (.t 1), none⟩ ::
⟨some 13, .call false (.f 122) [(.t 12)], none⟩ ::
⟨some 14, .slice 1 (.t 11) none (some (.t 13)) none, none⟩ ::
⟨some 4, .mov (.t 14), none⟩ ::
[])))
.ret)))
def rd_r12_nums : List RD := [.tmp 4 true (some (.int .u64))]
theorem ok_r12_nums : fnOk Tryz.prog Tryz.f94 ir_r12_nums rd_r12_nums = true := by kernel_rfl
def S_r12_nums : List AV → List Obj → Option (Prop × AV)
  | [.agg [.int .i64 q, .int .u64 a, .int .u64 b, .int .i64 c, .int .i64 f, .bool h, .int .u64 x, .imm (.int .u8) v, .imm (.int .u8) m, .imm (.int .u8) d], .imm (.int .i64) w], [] => some ((0 ≤ countW w ∧ countW w ≤ 2, .imm (.int .u64) ([a, b].take (countW w).toNat)))
  | _, _ => none
theorem snd_r12_nums : SoundS Tryz.prog 94 (RoF S_r12_nums).sum := by
  refine ro_fn Tryz.func94 ok_r12_nums (env_cons (s := RoF S_r01_Count) snd_r01_Count (env_nil _)) fun args objs p v e => ?_
  unfold S_r12_nums at e
  split at e
  · rename_i q a b c f h x v m d w
    cases e
    refine ⟨rfl, fun hw ho hp => ?_⟩
    change List Int at v
    change List Int at m
    change List Int at d
    change List Int at w
    clear hw ho
    repeat' (intro t ht; first | (cases t <;> first | (cases ht; done) | ((try simp only [Bool.not_eq_eq_eq_not, Bool.not_true, Bool.not_false, Bool.and_eq_true, Bool.and_eq_false_iff, decide_eq_true_eq, decide_eq_false_iff_not] at ht); (try simp only [Int.toNat_natCast, dflt_int] at ht); (try (exfalso; first | contradiction | omega)))) | (refine ht ?_ ?_ <;> clear ht) | (refine ht.1 ?_ ?_ <;> clear ht) | (refine ht ?_; clear ht))
    all_goals first
      | exact True.intro
      | exact hp
      | ((try simp only [Int.toNat_natCast, dflt_int, decide_eq_true_eq, decide_eq_false_iff_not, Bool.not_eq_eq_eq_not, Bool.not_true, Bool.not_false, Bool.and_eq_true, Bool.and_eq_false_iff, min_i64, max_i64, min_u64, max_u64, min_u32, max_u32, min_u16, max_u16, min_u8, max_u8] at *); omega)
      | exact ⟨rfl, rfl⟩
      | trace_state
  · cases e
def ir_r04_May : IR :=
(.seq
(.keep [0]
(.reg (⟨some 1, .boxv (.t 0), none⟩ ::
⟨some 2, .mov (.c (.kb false)), none⟩ ::
[])))
(.seq
(.keep [1]
(.reg (⟨some 3, .fieldAddr 0 (.t 1), none⟩ ::
⟨some 4, .load none (.t 3), none⟩ ::
⟨some 5, .bin .geq (.t 4) (.c (.int .i64 4)), none⟩ ::
⟨some 6, .mov (.t 5), none⟩ ::
⟨some 7, .fieldAddr 0 (.t 1), some (6, true)⟩ ::
⟨some 8, .load none (.t 7), some (6, true)⟩ ::
⟨some 9, .bin .leq (.t 8) (.c (.int .i64 60000)), some (6, true)⟩ ::
⟨some 10, .pick (.t 6) (.t 9) (.c (.kb false)), none⟩ ::
⟨some 11, .mov (.t 10), none⟩ ::
⟨some 12, .fieldAddr 1 (.t 1), some (11, true)⟩ ::
⟨some 13, .load none (.t 12), some (11, true)⟩ ::
⟨some 14, .bin .geq (.t 13) (.c (.int .i64 1)), some (11, true)⟩ ::
⟨some 15, .pick (.t 11) (.t 14) (.c (.kb false)), none⟩ ::
⟨some 16, .mov (.t 15), none⟩ ::
⟨some 17, .fieldAddr 1 (.t 1), some (16, true)⟩ ::
⟨some 18, .load none (.t 17), some (16, true)⟩ ::
⟨some 19, .bin .leq (.t 18) (.c (.int .i64 64)), some (16, true)⟩ ::
⟨some 20, .pick (.t 16) (.t 19) (.c (.kb false)), none⟩ ::
⟨some 21, .mov (.t 20), none⟩ ::
⟨some 22, .fieldAddr 3 (.t 1), some (21, true)⟩ ::
⟨some 23, .load none (.t 22), some (21, true)⟩ ::
⟨some 24, .bin .neq (.t 23) (.c (.int .i64 0)), some (21, true)⟩ ::
⟨some 25, .pick (.t 21) (.t 24) (.c (.kb false)), none⟩ ::
⟨some 26, .mov (.t 25), none⟩ ::
⟨some 27, .fieldAddr 4 (.t 1), some (26, true)⟩ ::
⟨some 28, .load none (.t 27), some (26, true)⟩ ::
⟨some 29, .bin .neq (.t 28) (.c (.int .i64 0)), some (26, true)⟩ ::
⟨some 30, .pick (.t 26) (.t 29) (.c (.kb false)), none⟩ ::
⟨some 2, .mov (.t 30), none⟩ ::
[])))
.ret))
def rd_r04_May : List RD := [.tmp 2 true none]
theorem ok_r04_May : fnOk Tryz.prog Tryz.f104 ir_r04_May rd_r04_May = true := by kernel_rfl
def S_r04_May : List AV → List Obj → Option (Prop × AV)
  | [.agg [.int .i64 least, .int .i64 step, .bool pad, .int .i64 bad, .int .i64 odd]], [] => some ((4 ≤ least ∧ least ≤ 60000 ∧ 1 ≤ step ∧ step ≤ 64 ∧ bad ≠ 0 ∧ odd ≠ 0, .bool true))
  | _, _ => none
theorem snd_r04_May : SoundS Tryz.prog 104 (RoF S_r04_May).sum := by
  refine ro_fn Tryz.func104 ok_r04_May (env_nil _) fun args objs p v e => ?_
  unfold S_r04_May at e
  split at e
  · rename_i least step pad bad odd
    cases e
    refine ⟨rfl, fun hw ho hp => ?_⟩
    clear hw ho
    obtain ⟨h1, h2, h3, h4, h5, h6⟩ := hp
    repeat' (intro t ht; first | (cases t <;> first | (cases ht; done) | ((try simp only [Bool.not_eq_eq_eq_not, Bool.not_true, Bool.not_false, Bool.and_eq_true, Bool.and_eq_false_iff, decide_eq_true_eq, decide_eq_false_iff_not] at ht); (try simp only [Int.toNat_natCast, dflt_int] at ht); (try (exfalso; first | contradiction | omega)))) | (refine ht ?_ ?_ <;> clear ht) | (refine ht.1 ?_ ?_ <;> clear ht) | (refine ht ?_; clear ht))
    all_goals first
      | exact True.intro
      | exact ⟨rfl, rfl⟩
      | (exfalso; omega)
      | (refine ⟨congrArg AV.bool ?_, rfl⟩; simp; omega)
      | trace_state
  · cases e
def ir_r04_One : IR :=
(.seq
(.keep [0, 1]
(.reg (⟨some 2, .boxv (.t 0), none⟩ ::
⟨some 4, .box [.int .i64 0, .imm (.int .u8) []], none⟩ ::
⟨some 5, .mov (.c (.int .i64 0)), none⟩ ::
⟨some 6, .mov (.c (.int .i64 0)), none⟩ ::
[])))
(.seq
(.seq
(.reg (⟨some 10, .load (some 5) (.t 2), none⟩ ::
⟨some 11, .call false (.f 104) [(.t 10)], none⟩ ::
⟨some 12, .un .not (.t 11), none⟩ ::
[]))
(.cond (.t 12)
(.seq
(.keep [4]
(.reg (⟨some 13, .build [.int .i64 0, .imm (.int .u8) []] [], none⟩ ::
⟨none, .store 2 (.t 4) (.t 13), none⟩ ::
⟨some 5, .mov (.c (.int .i64 0)), none⟩ ::
⟨some 6, .mov (.c (.int .i64 10001)), none⟩ ::
[])))
.ret)
.skip))
(.seq
(.seq
(.keep [1, 2, 4]
(.reg (⟨some 14, .mov (.t 1), none⟩ ::
⟨some 15, .len (.t 14), none⟩ ::
⟨some 16, .bin .lss (.t 15) (.c (.int .i64 4)), none⟩ ::
[])))
(.cond (.t 16)
(.seq
(.keep [2, 4]
(.regD ((⟨some 17, .build [.int .i64 0, .imm (.int .u8) []] [], none⟩, []) ::
(⟨some 18, .fieldAddr 3 (.t 2), none⟩, [0]) ::
(⟨some 19, .load none (.t 18), none⟩, [1]) ::
(⟨none, .store 2 (.t 4) (.t 17), none⟩, [0, 0]) ::
(⟨some 5, .mov (.c (.int .i64 0)), none⟩, [1, 0]) ::
(⟨some 6, .mov (.t 19), none⟩, []) ::
[])))
.ret)
.skip))
(.seq
(.keep [1, 2, 4]
(.reg (⟨some 20, .mov (.t 1), none⟩ ::
⟨some 21, .slice 1 (.t 20) (some (.c (.int .i64 2))) (some (.c (.int .i64 4))) none, none⟩ ::
⟨some 22, .call false (.f 75) [(.t 21)], none⟩ ::
⟨some 23, .conv .i64 (.t 22), none⟩ ::
⟨some 7, .mov (.t 23), none⟩ ::
[])))
(.seq
(.seq
(.keep [1, 2, 4, 7]
(.reg (⟨some 24, .mov (.t 7), none⟩ ::
⟨some 25, .fieldAddr 0 (.t 2), none⟩ ::
⟨some 26, .load none (.t 25), none⟩ ::
⟨some 27, .bin .lss (.t 24) (.t 26), none⟩ ::
⟨some 28, .mov (.t 27), none⟩ ::
⟨some 29, .fieldAddr 2 (.t 2), some (28, false)⟩ ::
⟨some 30, .load none (.t 29), some (28, false)⟩ ::
⟨some 31, .un .not (.t 30), some (28, false)⟩ ::
⟨some 32, .mov (.t 31), some (28, false)⟩ ::
⟨some 33, .mov (.t 7), some (32, true)⟩ ::
⟨some 34, .fieldAddr 1 (.t 2), some (32, true)⟩ ::
⟨some 35, .load none (.t 34), some (32, true)⟩ ::
⟨some 36, .bin .rem (.t 33) (.t 35), some (32, true)⟩ ::
⟨some 37, .bin .neq (.t 36) (.c (.int .i64 0)), some (32, true)⟩ ::
⟨some 38, .pick (.t 32) (.t 37) (.c (.kb false)), some (28, false)⟩ ::
⟨some 39, .pick (.t 28) (.c (.kb true)) (.t 38), none⟩ ::
[])))
(.cond (.t 39)
(.seq
(.keep [2, 4]
(.regD ((⟨some 40, .build [.int .i64 0, .imm (.int .u8) []] [], none⟩, []) ::
(⟨some 41, .fieldAddr 3 (.t 2), none⟩, [0]) ::
(⟨some 42, .load none (.t 41), none⟩, [1]) ::
(⟨none, .store 2 (.t 4) (.t 40), none⟩, [0, 0]) ::
(⟨some 5, .mov (.c (.int .i64 0)), none⟩, [1, 0]) ::
(⟨some 6, .mov (.t 42), none⟩, []) ::
[])))
.ret)
.skip))
(.seq
(.keep [1, 2, 4, 7]
(.reg (⟨some 43, .mov (.t 7), none⟩ ::
⟨some 8, .mov (.t 43), none⟩ ::
[])))
(.seq
(.seq
(.reg (⟨some 44, .fieldAddr 2 (.t 2), none⟩ ::
⟨some 45, .load none (.t 44), none⟩ ::
[]))
(.cond (.t 45)
(.keep [1, 2, 4, 7]
(.reg (⟨some 46, .mov (.t 7), none⟩ ::
⟨some 47, .mov (.t 7), none⟩ ::
⟨some 48, .fieldAddr 1 (.t 2), none⟩ ::
⟨some 49, .load none (.t 48), none⟩ ::
⟨some 50, .call false (.f 105) [(.t 47), (.t 49)], none⟩ ::
⟨some 51, .bin .add (.t 46) (.t 50), none⟩ ::
⟨some 8, .mov (.t 51), none⟩ ::
[])))
.skip))
(.seq
(.seq
(.keep [1, 2, 4, 7, 8]
(.reg (⟨some 52, .mov (.t 8), none⟩ ::
⟨some 53, .mov (.t 1), none⟩ ::
⟨some 54, .len (.t 53), none⟩ ::
⟨some 55, .bin .gtr (.t 52) (.t 54), none⟩ ::
[])))
(.cond (.t 55)
(.seq
(.keep [2, 4]
(.regD ((⟨some 56, .build [.int .i64 0, .imm (.int .u8) []] [], none⟩, []) ::
(⟨some 57, .fieldAddr 3 (.t 2), none⟩, [0]) ::
(⟨some 58, .load none (.t 57), none⟩, [1]) ::
(⟨none, .store 2 (.t 4) (.t 56), none⟩, [0, 0]) ::
(⟨some 5, .mov (.c (.int .i64 0)), none⟩, [1, 0]) ::
(⟨some 6, .mov (.t 58), none⟩, []) ::
[])))
.ret)
.skip))
(.seq
(.seq
(.reg (⟨some 59, .mov (.t 7), none⟩ ::
⟨some 9, .mov (.t 59), none⟩ ::
[]))
(.block 0
(.loop
(.seq
(.seq
(.keep [1, 2, 4, 7, 8, 9]
(.reg (⟨some 60, .mov (.t 9), none⟩ ::
⟨some 61, .mov (.t 8), none⟩ ::
⟨some 62, .bin .lss (.t 60) (.t 61), none⟩ ::
[])))
(.cond (.t 62)
.skip
(.exit 0)))
(.seq
(.block 1
(.seq
(.keep [1, 2, 4, 7, 8, 9]
(.reg (⟨some 65, .mov (.t 1), none⟩ ::
⟨some 66, .mov (.t 9), none⟩ ::
⟨some 67, .indexSl 1 (.t 65) (.t 66), none⟩ ::
⟨some 68, .load none (.t 67), none⟩ ::
⟨some 69, .bin .neq (.t 68) (.c (.int .u8 0)), none⟩ ::
[])))
(.cond (.t 69)
(.seq
(.keep [2, 4]
(.regD ((⟨some 70, .build [.int .i64 0, .imm (.int .u8) []] [], none⟩, []) ::
(⟨some 71, .fieldAddr 4 (.t 2), none⟩, [0]) ::
(⟨some 72, .load none (.t 71), none⟩, [1]) ::
(⟨none, .store 2 (.t 4) (.t 70), none⟩, [0, 0]) ::
(⟨some 5, .mov (.c (.int .i64 0)), none⟩, [1, 0]) ::
(⟨some 6, .mov (.t 72), none⟩, []) ::
[])))
.ret)
.skip)))
(.keep [1, 2, 4, 7, 8, 9]
(.reg (⟨some 63, .mov (.t 9), none⟩ ::
⟨some 64, .bin .add (.t 63) (.c (.int .i64 1)), none⟩ ::
⟨some 9, .mov (.t 64), none⟩ ::
[]))))))))
(.seq
(.keep [1, 4, 7, 8]
(.regD ((⟨some 73, .mov (.t 1), none⟩, []) ::
(⟨some 74, .slice 1 (.t 73) none (some (.c (.int .i64 2))) none, none⟩, []) ::
(⟨some 75, .call false (.f 75) [(.t 74)], none⟩, []) ::
(⟨some 76, .conv .i64 (.t 75), none⟩, []) ::
(⟨some 77, .slice0 (.int .u8), none⟩, [0, 0, 0, 0]) ::
(⟨some 78, .mov (.t 1), none⟩, [0, 0, 0, 0, 0]) ::
(⟨some 79, .mov (.t 7), none⟩, [0, 0, 0, 0, 0, 0]) ::
(⟨some 80, .slice 1 (.t 78) (some (.c (.int .i64 4))) (some (.t 79)) none, none⟩, [2, 0, 0, 0, 0]) ::
(⟨some 81, .append (.int .u8) 1 (.t 77) (.t 80), none⟩, [4]) ::
(⟨some 82, .buildAll 2 [(0, 1, (.t 76)), (1, 1, (.t 81))], none⟩, []) ::
(⟨some 83, .mov (.t 8), none⟩, [0, 0, 0, 0, 0, 0, 0, 0, 0, 0]) ::
(⟨none, .store 2 (.t 4) (.t 82), none⟩, [0]) ::
(⟨some 5, .mov (.t 83), none⟩, []) ::
(⟨some 6, .mov (.c (.int .i64 0)), none⟩, []) ::
[])))
.ret))))))))))
def rd_r04_One : List RD := [.cell 4 (some 2) true [], .tmp 5 true none, .tmp 6 true none]
theorem ok_r04_One : fnOk Tryz.prog Tryz.f54 ir_r04_One rd_r04_One = true := by kernel_rfl
def S_r04_One : List AV → List Obj → Option (Prop × AV)
  | [.agg [.int .i64 least, .int .i64 step, .bool pad, .int .i64 bad, .int .i64 odd], .imm (.int .u8) b], [] => some ((pad = false ∧ (4 ≤ least ∧ least ≤ 60000 ∧ 1 ≤ step ∧ step ≤ 64 ∧ bad ≠ 0 ∧ odd ≠ 0) ∧ b.length ≤ 140737488355328, .tup [.agg [.int .i64 (tlI b least step bad (tT b)), .imm (.int .u8) (tlR b least step bad)], .int .i64 (tlI b least step bad (tN b)), .int .i64 (tlE b least step bad)]))
  | _, _ => none
theorem snd_r04_One : SoundS Tryz.prog 54 (RoF S_r04_One).sum := by
  refine ro_fn Tryz.func54 ok_r04_One (env_cons (s := RoF S_r04_May) snd_r04_May (env_cons (s := RoF S_r01_Value) snd_r01_Value (env_nil _))) fun args objs p v e => ?_
  unfold S_r04_One at e
  split at e
  · rename_i least step pad bad odd b
    cases e
    refine ⟨rfl, fun hw ho hp => ?_⟩
    change List Int at b
    have hb : ∀ x ∈ (b : List Int), (0 : Int) ≤ x ∧ x ≤ 255 := fun x hx => (hw _ (by simp : AV.imm (.int .u8) b ∈ _)).1 x hx
    clear hw ho
    obtain ⟨rfl, hs, hl⟩ := hp
    have hs' := hs
    obtain ⟨h1, h2, h3, h4', h5, h6⟩ := hs'
    have hT : 0 ≤ tT b ∧ tT b ≤ 65535 := num2_le (a := 0) hb
    have hN : 0 ≤ tN b ∧ tN b ≤ 65535 := num2_le (a := 2) hb
    have v1 : numL ((b.take (4 : Int).toNat).drop (2 : Int).toNat) = tN b := by unfold tN; rw [List.drop_take]; rfl
    have v2 : numL ((b.take (2 : Int).toNat).drop (0 : Int).toNat) = tT b := rfl
    have v3 : numL (b.take (2 : Int).toNat) = tT b := rfl
    have hl2 : (b.take 2).length ≤ 8 := by rw [List.length_take]; omega
    have hl4 : ((b.take 4).drop 2).length ≤ 8 := by rw [List.length_drop, List.length_take]; omega
    have hm := tmod_bd (a := tN b) (s := step) hN.1 h3
    repeat' (intro t ht; first | (cases t <;> first | (cases ht; done) | ((try simp only [Bool.not_eq_eq_eq_not, Bool.not_true, Bool.not_false, Bool.and_eq_true, Bool.and_eq_false_iff, decide_eq_true_eq, decide_eq_false_iff_not] at ht); (try simp only [Int.toNat_natCast, dflt_int] at ht); (try (exfalso; first | contradiction | omega)))) | (refine ht ?_ ?_ <;> clear ht) | (refine ht.1 ?_ ?_ <;> clear ht) | (refine ht ?_; clear ht))
    all_goals (try simp only [v1, v2, v3] at *)
    all_goals first
      | exact True.intro
      | exact hs
      | exact hl2
      | exact hl4
      | omega
      | ((try simp only [Int.toNat_natCast, dflt_int, decide_eq_true_eq, decide_eq_false_iff_not, Bool.not_eq_eq_eq_not, Bool.not_true, Bool.not_false, Bool.and_eq_true, Bool.and_eq_false_iff, min_i64, max_i64, min_u64, max_u64, min_u32, max_u32, min_u16, max_u16, min_u8, max_u8] at *); omega)
      | (have hE : tlE b least step bad = bad := by
           unfold tlE
           by_cases h4 : b.length < 4
           · exact if_pos h4
           · rw [if_neg h4]
             by_cases hq : tN b < least ∨ ¬ (tN b).tmod step = 0
             · exact if_pos hq
             · rw [if_neg hq]; exact if_pos (by omega)
         unfold tlI tlR; simp only [hE, if_neg h5]; first | done | exact ⟨rfl, by first | rfl | exact True.intro⟩ | exact ⟨trivial, trivial⟩)
      | (intro r h1 h2; refine h1 ⟨1, ?_⟩; clear h1 h2)
      | trace_state
    all_goals repeat' (intro t ht; first | (cases t <;> first | (cases ht; done) | ((try simp only [Bool.not_eq_eq_eq_not, Bool.not_true, Bool.not_false, Bool.and_eq_true, Bool.and_eq_false_iff, decide_eq_true_eq, decide_eq_false_iff_not] at ht); (try simp only [Int.toNat_natCast, dflt_int] at ht); (try (exfalso; first | contradiction | omega)))) | (refine ht ?_ ?_ <;> clear ht) | (refine ht.1 ?_ ?_ <;> clear ht) | (refine ht ?_; clear ht))
    all_goals (try simp only [v1, v2, v3] at *)
    all_goals first
      | exact True.intro
      | omega
      | exact hl2
      | exact hl4
      | (have hT' : 0 ≤ numL (List.take (Int.toNat 2) b) ∧ numL (List.take (Int.toNat 2) b) ≤ 65535 := hT; (try simp only [Int.toNat_natCast, dflt_int, decide_eq_true_eq, decide_eq_false_iff_not, Bool.not_eq_eq_eq_not, Bool.not_true, Bool.not_false, Bool.and_eq_true, Bool.and_eq_false_iff, min_i64, max_i64, min_u64, max_u64, min_u32, max_u32, min_u16, max_u16, min_u8, max_u8] at *); omega)
      | (simp only [List.length_drop, List.length_take, List.length_nil]; constructor <;> omega)
      | ((try simp only [Int.toNat_natCast, dflt_int, decide_eq_true_eq, decide_eq_false_iff_not, Bool.not_eq_eq_eq_not, Bool.not_true, Bool.not_false, Bool.and_eq_true, Bool.and_eq_false_iff, min_i64, max_i64, min_u64, max_u64, min_u32, max_u32, min_u16, max_u16, min_u8, max_u8] at *); omega)
      | (have hE : tlE b least step bad = 0 := by unfold tlE; rw [if_neg (by omega), if_neg (by omega)]; exact if_neg (by omega)
         unfold tlI tlR; simp only [hE, if_true]; first | done | exact ⟨rfl, by first | rfl | exact True.intro⟩ | exact ⟨trivial, trivial⟩)
      | trace_state
  · cases e
/-- The document's answer of what may be is the code's. -/
theorem rightA_ref {q a b c f : Int} {h : Bool} {x : Int} {v m d : List Int} (hx : 0 ≤ x) (hv : ∀ x ∈ v, 0 ≤ x ∧ x ≤ 255) (hm : ∀ x ∈ m, 0 ≤ x ∧ x ≤ 255) : rightA (rightO c f h x v m) q a b c f h x v m d = rightA (refR c f h x v m) q a b c f h x v m d := by rw [right_law hx hv hm]
end Go.Eng
