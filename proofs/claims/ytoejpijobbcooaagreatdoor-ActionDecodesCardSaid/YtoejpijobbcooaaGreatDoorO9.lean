/- Contracts of functions of the given program, told by plain Lean functions. No condition. -/
import Derived.Test.YtoejpijobbcooaaGreatDoorProg
import Derived.Test.YtoejpijobbcooaaGreatDoorEArg
import Derived.KernelRfl
import Derived.Test.YtoejpijobbcooaaGreatDoorO2
namespace Go.Eng
open Go.Proofs
set_option linter.unusedVariables false
set_option linter.unusedSimpArgs false
set_option maxRecDepth 100000
set_option maxHeartbeats 1000000
theorem ref_fit {f : Int} {v : List Int} (h : refFitsF f v = true) : (v.length : Int) = sizeR f ∧ 0 ≤ bitsR f ∧ bitsR f ≤ 8 * sizeR f ∧ sizeR f ≤ 16 := by
  unfold refFitsF at h
  split at h
  · rename_i hh
    have hn := fIs_t.1 hh.1
    have := tab_le f.toNat (by omega)
    rw [Int.toNat_of_nonneg hn.1] at this
    omega
  · cases h
def refW (c f : Int) (h : Bool) (v m : List Int) : Int :=
  if c = 32768 ∧ refFitsF f v = false then 1032 else if h = true ∧ c = 32768 ∧ refFitsF f m = false then 1033
  else if h = true ∧ (zeroL m = true ∨ refO m (if c = 32768 then bitsR f else 8 * m.length).toNat 0 = true) then 1033 else if h = true ∧ inA v m = false then 1030 else 0
def ir_r08_Wrong : IR :=
(.seq
(.keep [0]
(.reg (⟨some 1, .boxv (.t 0), none⟩ ::
⟨some 2, .mov (.c (.int .i64 0)), none⟩ ::
[])))
(.seq
(.keep [1]
(.reg (⟨some 7, .fieldAddr 1 (.t 1), none⟩ ::
⟨some 8, .load none (.t 7), none⟩ ::
⟨some 9, .call false (.f 116) [(.t 8)], none⟩ ::
⟨some 6, .mov (.t 9), none⟩ ::
⟨some 10, .extract (.t 6) 0, none⟩ ::
⟨some 11, .extract (.t 6) 1, none⟩ ::
⟨some 3, .box [.str [], .int .i64 0, .int .i64 0, .kb false, .int .i64 0, .imm (.int .u64) []], none⟩ ::
⟨none, .store 6 (.t 3) (.t 10), none⟩ ::
⟨some 4, .mov (.t 11), none⟩ ::
[])))
(.seq
(.keep [1, 3]
(.reg (⟨some 12, .fieldAddr 5 (.t 1), none⟩ ::
⟨some 13, .load none (.t 12), none⟩ ::
⟨some 14, .len (.t 13), none⟩ ::
⟨some 15, .bin .mul (.c (.int .i64 8)) (.t 14), none⟩ ::
⟨some 5, .mov (.t 15), none⟩ ::
[])))
(.seq
(.seq
(.reg (⟨some 16, .fieldAddr 0 (.t 1), none⟩ ::
⟨some 17, .load none (.t 16), none⟩ ::
⟨some 18, .bin .eql (.t 17) (.c (.int .i64 32768)), none⟩ ::
[]))
(.cond (.t 18)
(.seq
(.keep [1, 3]
(.reg (⟨some 19, .fieldAddr 1 (.t 3), none⟩ ::
⟨some 20, .load none (.t 19), none⟩ ::
⟨some 5, .mov (.t 20), none⟩ ::
[])))
(.seq
(.seq
(.keep [1, 5]
(.reg (⟨some 21, .fieldAddr 1 (.t 1), none⟩ ::
⟨some 22, .load none (.t 21), none⟩ ::
⟨some 23, .fieldAddr 4 (.t 1), none⟩ ::
⟨some 24, .load none (.t 23), none⟩ ::
⟨some 25, .call false (.f 144) [(.t 22), (.t 24)], none⟩ ::
⟨some 26, .un .not (.t 25), none⟩ ::
[])))
(.cond (.t 26)
(.seq
(.keep []
(.reg (⟨some 2, .mov (.c (.int .i64 1032)), none⟩ ::
[])))
.ret)
.skip))
(.seq
(.keep [1, 5]
(.reg (⟨some 27, .fieldAddr 2 (.t 1), none⟩ ::
⟨some 28, .load none (.t 27), none⟩ ::
⟨some 29, .mov (.t 28), none⟩ ::
⟨some 30, .fieldAddr 1 (.t 1), some (29, true)⟩ ::
⟨some 31, .load none (.t 30), some (29, true)⟩ ::
⟨some 32, .fieldAddr 5 (.t 1), some (29, true)⟩ ::
⟨some 33, .load none (.t 32), some (29, true)⟩ ::
⟨some 34, .call false (.f 144) [(.t 31), (.t 33)], some (29, true)⟩ ::
⟨some 35, .un .not (.t 34), some (29, true)⟩ ::
⟨some 36, .pick (.t 29) (.t 35) (.c (.kb false)), none⟩ ::
[])))
(.cond (.t 36)
(.seq
(.keep []
(.reg (⟨some 2, .mov (.c (.int .i64 1033)), none⟩ ::
[])))
.ret)
.skip))))
.skip))
(.seq
(.seq
(.keep [1, 5]
(.reg (⟨some 37, .fieldAddr 2 (.t 1), none⟩ ::
⟨some 38, .load none (.t 37), none⟩ ::
⟨some 39, .mov (.t 38), none⟩ ::
⟨some 40, .fieldAddr 5 (.t 1), some (39, true)⟩ ::
⟨some 41, .load none (.t 40), some (39, true)⟩ ::
⟨some 42, .call false (.f 145) [(.t 41)], some (39, true)⟩ ::
⟨some 43, .mov (.t 42), some (39, true)⟩ ::
⟨some 44, .fieldAddr 5 (.t 1), some (43, false)⟩ ::
⟨some 45, .load none (.t 44), some (43, false)⟩ ::
⟨some 46, .mov (.t 5), some (43, false)⟩ ::
⟨some 47, .call false (.f 146) [(.t 45), (.t 46)], some (43, false)⟩ ::
⟨some 48, .pick (.t 43) (.c (.kb true)) (.t 47), some (39, true)⟩ ::
⟨some 49, .pick (.t 39) (.t 48) (.c (.kb false)), none⟩ ::
[])))
(.cond (.t 49)
(.seq
(.keep []
(.reg (⟨some 2, .mov (.c (.int .i64 1033)), none⟩ ::
[])))
.ret)
.skip))
(.seq
(.seq
(.keep [1]
(.reg (⟨some 50, .fieldAddr 2 (.t 1), none⟩ ::
⟨some 51, .load none (.t 50), none⟩ ::
⟨some 52, .mov (.t 51), none⟩ ::
⟨some 53, .fieldAddr 4 (.t 1), some (52, true)⟩ ::
⟨some 54, .load none (.t 53), some (52, true)⟩ ::
⟨some 55, .fieldAddr 5 (.t 1), some (52, true)⟩ ::
⟨some 56, .load none (.t 55), some (52, true)⟩ ::
⟨some 57, .call false (.f 147) [(.t 54), (.t 56)], some (52, true)⟩ ::
⟨some 58, .un .not (.t 57), some (52, true)⟩ ::
⟨some 59, .pick (.t 52) (.t 58) (.c (.kb false)), none⟩ ::
[])))
(.cond (.t 59)
(.seq
(.keep []
(.reg (⟨some 2, .mov (.c (.int .i64 1030)), none⟩ ::
[])))
.ret)
.skip))
(.seq
(.keep []
(.reg (⟨some 2, .mov (.c (.int .i64 0)), none⟩ ::
[])))
.ret)))))))
def rd_r08_Wrong : List RD := [.tmp 2 true none]
theorem ok_r08_Wrong : fnOk Tryz.prog Tryz.f117 ir_r08_Wrong rd_r08_Wrong = true := by kernel_rfl
def S_r08_Wrong : List AV → List Obj → Option (Prop × AV)
  | [.agg [.int .i64 c, .int .i64 f, .bool h, .int .u64 x, .imm (.int .u8) v, .imm (.int .u8) m]], [] => some (((h = true → c ≠ 32768 → v.length ≤ m.length) ∧ m.length ≤ 100000, .int .i64 (refW c f h v m)))
  | _, _ => none
theorem snd_r08_Wrong : SoundS Tryz.prog 117 (RoF S_r08_Wrong).sum := by
  refine ro_fn Tryz.func117 ok_r08_Wrong (env_cons (s := RoF S_r07_Of) snd_r07_Of (env_cons (s := RoF S_r07_Fits) snd_r07_Fits (env_cons (s := RoF S_r08_zeros) snd_r08_zeros (env_cons (s := RoF S_r08_ones) snd_r08_ones (env_cons (s := RoF S_r08_inside) snd_r08_inside (env_nil _)))))) fun args objs p v e => ?_
  unfold S_r08_Wrong at e
  split at e
  · rename_i c f h x v m
    cases e
    refine ⟨rfl, fun hw ho hp => ?_⟩
    change List Int at v
    change List Int at m
    have hfv := ref_fit (f := f) (v := v)
    have hfm := ref_fit (f := f) (v := m)
    cases h <;> by_cases hc : c = 32768
    all_goals repeat' (intro t ht; first | (cases t <;> first | (cases ht; done) | ((try simp only [Bool.not_eq_eq_eq_not, Bool.not_true, Bool.not_false, Bool.and_eq_true, Bool.and_eq_false_iff, decide_eq_true_eq, decide_eq_false_iff_not] at ht); (try simp only [Int.toNat_natCast, dflt_int] at ht))) | (refine ht ?_ ?_ <;> clear ht) | (refine ht.1 ?_ ?_ <;> clear ht) | (refine ht ?_; clear ht))
    all_goals first
      | exact True.intro
      | contradiction
      | ((try simp only [Int.toNat_natCast, dflt_int, decide_eq_true_eq, decide_eq_false_iff_not, Bool.not_eq_eq_eq_not, Bool.not_true, Bool.not_false, Bool.and_eq_true, Bool.and_eq_false_iff, min_i64, max_i64, min_u64, max_u64, min_u32, max_u32, min_u16, max_u16, min_u8, max_u8] at *); omega)
      | (have h1 := hfm (by assumption); (try simp only [Int.toNat_natCast, dflt_int, decide_eq_true_eq, decide_eq_false_iff_not, Bool.not_eq_eq_eq_not, Bool.not_true, Bool.not_false, Bool.and_eq_true, Bool.and_eq_false_iff, min_i64, max_i64, min_u64, max_u64, min_u32, max_u32, min_u16, max_u16, min_u8, max_u8] at *); omega)
      | (have h1 := hfm (by assumption); have h2 := hfv (by assumption); (try simp only [Int.toNat_natCast, dflt_int, decide_eq_true_eq, decide_eq_false_iff_not, Bool.not_eq_eq_eq_not, Bool.not_true, Bool.not_false, Bool.and_eq_true, Bool.and_eq_false_iff, min_i64, max_i64, min_u64, max_u64, min_u32, max_u32, min_u16, max_u16, min_u8, max_u8] at *); omega)
      | (have h1 := hp.1 rfl (by assumption); exact h1)
      | (unfold refW; simp_all; done)
      | trace_state
  · cases e
def refR (c f : Int) (h : Bool) (x : Int) (v m : List Int) : Bool :=
  if (h = false ∧ 0 < m.length) ∨ (h = true ∧ ¬ (m.length : Int) = v.length) then false
  else if c = 32768 then fIs f && decide (x = 0) && (!h || maskR f) && decide (refW c f h v m = 0)
  else decide (c = 65535) && decide (0 ≤ f) && decide (f ≤ 127) && decide (x < 4294967296) && decide ((v.length : Int) ≤ 100) && decide (refW c f h v m = 0)
def ir_r08_Right : IR :=
(.seq
(.keep [0]
(.reg (⟨some 1, .boxv (.t 0), none⟩ ::
⟨some 2, .mov (.c (.kb false)), none⟩ ::
[])))
(.seq
(.seq
(.keep [1]
(.reg (⟨some 5, .fieldAddr 2 (.t 1), none⟩ ::
⟨some 6, .load none (.t 5), none⟩ ::
⟨some 7, .un .not (.t 6), none⟩ ::
⟨some 8, .mov (.t 7), none⟩ ::
⟨some 9, .fieldAddr 5 (.t 1), some (8, true)⟩ ::
⟨some 10, .load none (.t 9), some (8, true)⟩ ::
⟨some 11, .len (.t 10), some (8, true)⟩ ::
⟨some 12, .bin .gtr (.t 11) (.c (.int .i64 0)), some (8, true)⟩ ::
⟨some 13, .pick (.t 8) (.t 12) (.c (.kb false)), none⟩ ::
⟨some 14, .mov (.t 13), none⟩ ::
⟨some 15, .fieldAddr 2 (.t 1), some (14, false)⟩ ::
⟨some 16, .load none (.t 15), some (14, false)⟩ ::
⟨some 17, .mov (.t 16), some (14, false)⟩ ::
⟨some 18, .fieldAddr 5 (.t 1), some (17, true)⟩ ::
⟨some 19, .load none (.t 18), some (17, true)⟩ ::
⟨some 20, .len (.t 19), some (17, true)⟩ ::
⟨some 21, .fieldAddr 4 (.t 1), some (17, true)⟩ ::
⟨some 22, .load none (.t 21), some (17, true)⟩ ::
⟨some 23, .len (.t 22), some (17, true)⟩ ::
⟨some 24, .bin .neq (.t 20) (.t 23), some (17, true)⟩ ::
⟨some 25, .pick (.t 17) (.t 24) (.c (.kb false)), some (14, false)⟩ ::
⟨some 26, .pick (.t 14) (.c (.kb true)) (.t 25), none⟩ ::
[])))
(.cond (.t 26)
(.seq
(.keep []
(.reg (⟨some 2, .mov (.c (.kb false)), none⟩ ::
[])))
.ret)
.skip))
(.seq
(.seq
(.keep [1]
(.reg (⟨some 27, .fieldAddr 0 (.t 1), none⟩ ::
⟨some 28, .load none (.t 27), none⟩ ::
⟨some 29, .bin .eql (.t 28) (.c (.int .i64 32768)), none⟩ ::
[])))
(.cond (.t 29)
(.seq
(.keep [1]
(.reg (⟨some 31, .fieldAddr 1 (.t 1), none⟩ ::
⟨some 32, .load none (.t 31), none⟩ ::
⟨some 33, .call false (.f 116) [(.t 32)], none⟩ ::
⟨some 30, .mov (.t 33), none⟩ ::
⟨some 34, .extract (.t 30) 0, none⟩ ::
⟨some 35, .extract (.t 30) 1, none⟩ ::
⟨some 3, .box [.str [], .int .i64 0, .int .i64 0, .kb false, .int .i64 0, .imm (.int .u64) []], none⟩ ::
⟨none, .store 6 (.t 3) (.t 34), none⟩ ::
⟨some 4, .mov (.t 35), none⟩ ::
[])))
(.seq
(.keep [1, 3, 4]
(.reg (⟨some 36, .mov (.t 4), none⟩ ::
⟨some 37, .mov (.t 36), none⟩ ::
⟨some 38, .fieldAddr 3 (.t 1), some (37, true)⟩ ::
⟨some 39, .load none (.t 38), some (37, true)⟩ ::
⟨some 40, .bin .eql (.t 39) (.c (.int .u64 0)), some (37, true)⟩ ::
⟨some 41, .pick (.t 37) (.t 40) (.c (.kb false)), none⟩ ::
⟨some 42, .mov (.t 41), none⟩ ::
⟨some 43, .fieldAddr 2 (.t 1), some (42, true)⟩ ::
⟨some 44, .load none (.t 43), some (42, true)⟩ ::
⟨some 45, .un .not (.t 44), some (42, true)⟩ ::
⟨some 46, .mov (.t 45), some (42, true)⟩ ::
⟨some 47, .fieldAddr 3 (.t 3), some (46, false)⟩ ::
⟨some 48, .load none (.t 47), some (46, false)⟩ ::
⟨some 49, .pick (.t 46) (.c (.kb true)) (.t 48), some (42, true)⟩ ::
⟨some 50, .pick (.t 42) (.t 49) (.c (.kb false)), none⟩ ::
⟨some 51, .mov (.t 50), none⟩ ::
⟨some 52, .load (some 6) (.t 1), some (51, true)⟩ ::
⟨some 53, .call false (.f 117) [(.t 52)], some (51, true)⟩ ::
⟨some 54, .bin .eql (.t 53) (.c (.int .i64 0)), some (51, true)⟩ ::
⟨some 55, .pick (.t 51) (.t 54) (.c (.kb false)), none⟩ ::
⟨some 2, .mov (.t 55), none⟩ ::
[])))
.ret))
.skip))
(.seq
(.keep [1]
(.reg (⟨some 56, .fieldAddr 0 (.t 1), none⟩ ::
⟨some 57, .load none (.t 56), none⟩ ::
⟨some 58, .bin .eql (.t 57) (.c (.int .i64 65535)), none⟩ ::
⟨some 59, .mov (.t 58), none⟩ ::
⟨some 60, .fieldAddr 1 (.t 1), some (59, true)⟩ ::
⟨some 61, .load none (.t 60), some (59, true)⟩ ::
⟨some 62, .bin .geq (.t 61) (.c (.int .i64 0)), some (59, true)⟩ ::
⟨some 63, .pick (.t 59) (.t 62) (.c (.kb false)), none⟩ ::
⟨some 64, .mov (.t 63), none⟩ ::
⟨some 65, .fieldAddr 1 (.t 1), some (64, true)⟩ ::
⟨some 66, .load none (.t 65), some (64, true)⟩ ::
⟨some 67, .bin .leq (.t 66) (.c (.int .i64 127)), some (64, true)⟩ ::
⟨some 68, .pick (.t 64) (.t 67) (.c (.kb false)), none⟩ ::
⟨some 69, .mov (.t 68), none⟩ ::
⟨some 70, .fieldAddr 3 (.t 1), some (69, true)⟩ ::
⟨some 71, .load none (.t 70), some (69, true)⟩ ::
⟨some 72, .bin .lss (.t 71) (.c (.int .u64 4294967296)), some (69, true)⟩ ::
⟨some 73, .pick (.t 69) (.t 72) (.c (.kb false)), none⟩ ::
⟨some 74, .mov (.t 73), none⟩ ::
⟨some 75, .fieldAddr 4 (.t 1), some (74, true)⟩ ::
⟨some 76, .load none (.t 75), some (74, true)⟩ ::
⟨some 77, .len (.t 76), some (74, true)⟩ ::
⟨some 78, .bin .leq (.t 77) (.c (.int .i64 100)), some (74, true)⟩ ::
⟨some 79, .pick (.t 74) (.t 78) (.c (.kb false)), none⟩ ::
⟨some 80, .mov (.t 79), none⟩ ::
⟨some 81, .load (some 6) (.t 1), some (80, true)⟩ ::
⟨some 82, .call false (.f 117) [(.t 81)], some (80, true)⟩ ::
⟨some 83, .bin .eql (.t 82) (.c (.int .i64 0)), some (80, true)⟩ ::
⟨some 84, .pick (.t 80) (.t 83) (.c (.kb false)), none⟩ ::
⟨some 2, .mov (.t 84), none⟩ ::
[])))
.ret))))
def rd_r08_Right : List RD := [.tmp 2 true none]
theorem ok_r08_Right : fnOk Tryz.prog Tryz.f92 ir_r08_Right rd_r08_Right = true := by kernel_rfl
def S_r08_Right : List AV → List Obj → Option (Prop × AV)
  | [.agg [.int .i64 c, .int .i64 f, .bool h, .int .u64 x, .imm (.int .u8) v, .imm (.int .u8) m]], [] => some ((m.length ≤ 100000, .bool (refR c f h x v m)))
  | _, _ => none
theorem snd_r08_Right : SoundS Tryz.prog 92 (RoF S_r08_Right).sum := by
  refine ro_fn Tryz.func92 ok_r08_Right (env_cons (s := RoF S_r07_Of) snd_r07_Of (env_cons (s := RoF S_r08_Wrong) snd_r08_Wrong (env_nil _))) fun args objs p v e => ?_
  unfold S_r08_Right at e
  split at e
  · rename_i c f h x v m
    cases e
    refine ⟨rfl, fun hw ho hp => ?_⟩
    change List Int at v
    change List Int at m
    have hm : m.length ≤ maxLen := (hw _ (List.mem_cons_self ..) (.imm (.int .u8) m) (by simp)).2
    have hv : v.length ≤ maxLen := (hw _ (List.mem_cons_self ..) (.imm (.int .u8) v) (by simp)).2
    unfold maxLen at hm hv
    cases h <;> by_cases hc : c = 32768
    all_goals repeat' (intro t ht; first | (cases t <;> first | (cases ht; done) | ((try simp only [Bool.not_eq_eq_eq_not, Bool.not_true, Bool.not_false, Bool.and_eq_true, Bool.and_eq_false_iff, decide_eq_true_eq, decide_eq_false_iff_not] at ht); (try simp only [Int.toNat_natCast, dflt_int] at ht))) | (refine ht ?_ ?_ <;> clear ht) | (refine ht.1 ?_ ?_ <;> clear ht) | (refine ht ?_; clear ht))
    all_goals first
      | exact True.intro
      | contradiction
      | (refine ⟨fun h1 h2 => ?_, ?_⟩ <;> first | omega | (cases h1; done))
      | ((try simp only [Int.toNat_natCast, dflt_int, decide_eq_true_eq, decide_eq_false_iff_not, Bool.not_eq_eq_eq_not, Bool.not_true, Bool.not_false, Bool.and_eq_true, Bool.and_eq_false_iff, min_i64, max_i64, min_u64, max_u64, min_u32, max_u32, min_u16, max_u16, min_u8, max_u8] at *); omega)
      | (unfold refR; simp_all; done)
      | (unfold refR; simp_all; omega)
      | trace_state
  · cases e
def bodyR (c x : Int) (v m : List Int) : List Int := (if c = 65535 then bytesN x 4 else []) ++ v ++ m
def refB (c f : Int) (h : Bool) (x : Int) (v m : List Int) : List Int := bytesN c 2 ++ [2 * f + if h = true then 1 else 0, ((bodyR c x v m).length : Int)] ++ bodyR c x v m
def ir_r08_Bytes : IR :=
(.seq
(.keep [0]
(.reg (⟨some 1, .boxv (.t 0), none⟩ ::
⟨some 2, .nilrow (.int .u8), none⟩ ::
[])))
(.seq
(.reg (⟨some 3, .nilrow (.int .u8), none⟩ ::
[]))
(.seq
(.seq
(.reg (⟨some 5, .fieldAddr 0 (.t 1), none⟩ ::
⟨some 6, .load none (.t 5), none⟩ ::
⟨some 7, .bin .eql (.t 6) (.c (.int .i64 65535)), none⟩ ::
[]))
(.cond (.t 7)
(.keep [1]
(.reg (⟨some 8, .fieldAddr 3 (.t 1), none⟩ ::
⟨some 9, .load none (.t 8), none⟩ ::
⟨some 10, .call false (.f 44) [(.t 9), (.c (.int .i64 4))], none⟩ ::
⟨some 3, .mov (.t 10), none⟩ ::
[])))
.skip))
(.seq
(.keep [1, 3]
(.regD ((⟨some 11, .mov (.t 3), none⟩, []) ::
(⟨some 12, .fieldAddr 4 (.t 1), none⟩, [0]) ::
(⟨some 13, .load none (.t 12), none⟩, [1]) ::
(⟨some 14, .append (.int .u8) 1 (.t 11) (.t 13), none⟩, []) ::
(⟨some 15, .fieldAddr 5 (.t 1), none⟩, [0, 0, 0, 0]) ::
(⟨some 16, .load none (.t 15), none⟩, [1, 0, 0, 0]) ::
(⟨some 17, .append (.int .u8) 1 (.t 14) (.t 16), none⟩, []) ::
(⟨some 3, .mov (.t 17), none⟩, []) ::
[])))
(.seq
(.keep [1, 3]
(.reg (⟨some 18, .fieldAddr 1 (.t 1), none⟩ ::
⟨some 19, .load none (.t 18), none⟩ ::
⟨some 20, .bin .mul (.c (.int .i64 2)) (.t 19), none⟩ ::
⟨some 4, .mov (.t 20), none⟩ ::
[])))
(.seq
(.seq
(.reg (⟨some 21, .fieldAddr 2 (.t 1), none⟩ ::
⟨some 22, .load none (.t 21), none⟩ ::
[]))
(.cond (.t 22)
(.keep [1, 3, 4]
(.reg (⟨some 23, .mov (.t 4), none⟩ ::
⟨some 24, .bin .add (.t 23) (.c (.int .i64 1)), none⟩ ::
⟨some 4, .mov (.t 24), none⟩ ::
[])))
.skip))
(.seq
(.keep [1, 3, 4]
(.reg (⟨some 25, .fieldAddr 0 (.t 1), none⟩ ::
⟨some 26, .load none (.t 25), none⟩ ::
⟨some 27, .conv .u64 (.t 26), none⟩ ::
⟨some 28, .call false (.f 44) [(.t 27), (.c (.int .i64 2))], none⟩ ::
⟨some 29, .mov (.t 4), none⟩ ::
⟨some 30, .conv .u8 (.t 29), none⟩ ::
⟨some 31, .mov (.t 3), none⟩ ::
⟨some 32, .len (.t 31), none⟩ ::
⟨some 33, .conv .u8 (.t 32), none⟩ ::
⟨some 34, .sliceAll (.int .u8) 2 [(0, 1, (.t 30)), (1, 1, (.t 33))], none⟩ ::
⟨some 35, .append (.int .u8) 1 (.t 28) (.t 34), none⟩ ::
⟨some 36, .mov (.t 3), none⟩ ::
⟨some 37, .append (.int .u8) 1 (.t 35) (.t 36), none⟩ ::
⟨some 2, .mov (.t 37), none⟩ ::
[])))
.ret)))))))
def rd_r08_Bytes : List RD := [.tmp 2 true (some (.int .u8))]
theorem ok_r08_Bytes : fnOk Tryz.prog Tryz.f93 ir_r08_Bytes rd_r08_Bytes = true := by kernel_rfl
def S_r08_Bytes : List AV → List Obj → Option (Prop × AV)
  | [.agg [.int .i64 c, .int .i64 f, .bool h, .int .u64 x, .imm (.int .u8) v, .imm (.int .u8) m]], [] => some ((0 ≤ f ∧ f ≤ 127 ∧ 0 ≤ c ∧ c ≤ 65535 ∧ v.length ≤ 100 ∧ m.length ≤ 100, .imm (.int .u8) (refB c f h x v m)))
  | _, _ => none
theorem snd_r08_Bytes : SoundS Tryz.prog 93 (RoF S_r08_Bytes).sum := by
  refine ro_fn Tryz.func93 ok_r08_Bytes (env_cons (s := RwF S_r01_Num) snd_r01_Num (env_nil _)) fun args objs p v e => ?_
  unfold S_r08_Bytes at e
  split at e
  · rename_i c f h x v m
    cases e
    refine ⟨rfl, fun hw ho hp => ?_⟩
    change List Int at v
    change List Int at m
    have hx := bytesN_len (n := x) (w := 4) (by decide)
    have hc2 := bytesN_len (n := c) (w := 2) (by decide)
    cases h <;> by_cases hc : c = 65535
    all_goals repeat' (intro t ht; first | (cases t <;> first | (cases ht; done) | ((try simp only [Bool.not_eq_eq_eq_not, Bool.not_true, Bool.not_false, Bool.and_eq_true, Bool.and_eq_false_iff, decide_eq_true_eq, decide_eq_false_iff_not] at ht); (try simp only [Int.toNat_natCast, dflt_int] at ht))) | (refine ht ?_ ?_ <;> clear ht) | (refine ht.1 ?_ ?_ <;> clear ht) | (refine ht ?_; clear ht))
    all_goals first
      | exact True.intro
      | exact (by decide)
      | contradiction
      | ((try simp only [Int.toNat_natCast, dflt_int, decide_eq_true_eq, decide_eq_false_iff_not, Bool.not_eq_eq_eq_not, Bool.not_true, Bool.not_false, Bool.and_eq_true, Bool.and_eq_false_iff, min_i64, max_i64, min_u64, max_u64, min_u32, max_u32, min_u16, max_u16, min_u8, max_u8] at *); omega)
      | (simp only [List.length_append, List.length_cons, List.length_nil, cast_rfl]; (try simp only [Int.toNat_natCast, dflt_int, decide_eq_true_eq, decide_eq_false_iff_not, Bool.not_eq_eq_eq_not, Bool.not_true, Bool.not_false, Bool.and_eq_true, Bool.and_eq_false_iff, min_i64, max_i64, min_u64, max_u64, min_u32, max_u32, min_u16, max_u16, min_u8, max_u8] at *); omega)
      | (unfold refB bodyR; simp_all; done)
      | trace_state
  · cases e
end Go.Eng
