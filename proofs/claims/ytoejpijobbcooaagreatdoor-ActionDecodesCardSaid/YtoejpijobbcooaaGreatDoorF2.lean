/- Contracts of functions of the given program, told by plain Lean functions. No condition. -/
import Derived.Test.YtoejpijobbcooaaGreatDoorProg
import Derived.Test.YtoejpijobbcooaaGreatDoorEArg
import Derived.KernelRfl
namespace Go.Eng
open Go.Proofs
set_option linter.unusedVariables false
set_option linter.unusedSimpArgs false
set_option maxRecDepth 100000
set_option maxHeartbeats 1000000
def fIs (n : Int) : Bool := decide (0 ≤ n) && decide (n < 40)
theorem fIs_t {n : Int} : fIs n = true ↔ 0 ≤ n ∧ n < 40 := by unfold fIs; simp
theorem fIs_f {n : Int} : fIs n = false ↔ ¬ (0 ≤ n ∧ n < 40) := by rw [← fIs_t]; simp
def ir_field_is : IR :=
(.seq
(.keep [0]
(.reg (⟨some 2, .mov (.c (.kb false)), none⟩ ::
[])))
(.seq
(.keep [0]
(.reg (⟨some 3, .mov (.t 0), none⟩ ::
⟨some 4, .bin .geq (.t 3) (.c (.int .i64 0)), none⟩ ::
⟨some 5, .mov (.t 4), none⟩ ::
⟨some 6, .mov (.t 0), some (5, true)⟩ ::
⟨some 7, .bin .lss (.t 6) (.c (.int .i64 40)), some (5, true)⟩ ::
⟨some 8, .pick (.t 5) (.t 7) (.c (.kb false)), none⟩ ::
⟨some 2, .mov (.t 8), none⟩ ::
[])))
.ret))
def rd_field_is : List RD := [.tmp 2 true none]
theorem ok_field_is : fnOk Tryz.prog Tryz.f124 ir_field_is rd_field_is = true := by kernel_rfl
def S_field_is : List AV → List Obj → Option (Prop × AV)
  | [.int .i64 n], [] => some ((True, .bool (fIs n)))
  | _, _ => none
theorem snd_field_is : SoundS Tryz.prog 124 (RoF S_field_is).sum := by
  refine ro_fn Tryz.func124 ok_field_is (env_nil _) fun args objs p v e => ?_
  unfold S_field_is at e
  split at e
  · rename_i n
    cases e
    refine ⟨rfl, fun hw ho hp => ?_⟩
    repeat' (intro t ht; first | (cases t <;> first | (cases ht; done) | ((try simp only [Bool.not_eq_eq_eq_not, Bool.not_true, Bool.not_false, Bool.and_eq_true, Bool.and_eq_false_iff, decide_eq_true_eq, decide_eq_false_iff_not] at ht); (try simp only [Int.toNat_natCast, dflt_int] at ht))) | (refine ht ?_ ?_ <;> clear ht) | (refine ht.1 ?_ ?_ <;> clear ht) | (refine ht ?_; clear ht))
    all_goals refine ⟨?_, rfl⟩
    all_goals unfold fIs
    all_goals first | (congr 1; simp_all; done) | (congr 1; simp_all; omega)
  · cases e
def bitsL : List Int := [32, 32, 64, 48, 48, 16, 13, 3, 6, 2, 8, 32, 32, 16, 16, 16, 16, 16, 16, 8, 8, 16, 32, 32, 48, 48, 128, 128, 20, 8, 8, 128, 48, 48, 20, 3, 1, 24, 64, 9]
def ir_field_bits : IR :=
(.seq
(.keep [0]
(.reg (⟨some 2, .mov (.c (.int .i64 0)), none⟩ ::
[])))
(.seq
(.reg (⟨some 4, .buildAll 40 [(0, 1, (.c (.int .i64 32))), (1, 1, (.c (.int .i64 32))), (2, 1, (.c (.int .i64 64))), (3, 1, (.c (.int .i64 48))), (4, 1, (.c (.int .i64 48))), (5, 1, (.c (.int .i64 16))), (6, 1, (.c (.int .i64 13))), (7, 1, (.c (.int .i64 3))), (8, 1, (.c (.int .i64 6))), (9, 1, (.c (.int .i64 2))), (10, 1, (.c (.int .i64 8))), (11, 1, (.c (.int .i64 32))), (12, 1, (.c (.int .i64 32))), (13, 1, (.c (.int .i64 16))), (14, 1, (.c (.int .i64 16))), (15, 1, (.c (.int .i64 16))), (16, 1, (.c (.int .i64 16))), (17, 1, (.c (.int .i64 16))), (18, 1, (.c (.int .i64 16))), (19, 1, (.c (.int .i64 8))), (20, 1, (.c (.int .i64 8))), (21, 1, (.c (.int .i64 16))), (22, 1, (.c (.int .i64 32))), (23, 1, (.c (.int .i64 32))), (24, 1, (.c (.int .i64 48))), (25, 1, (.c (.int .i64 48))), (26, 1, (.c (.int .i64 128))), (27, 1, (.c (.int .i64 128))), (28, 1, (.c (.int .i64 20))), (29, 1, (.c (.int .i64 8))), (30, 1, (.c (.int .i64 8))), (31, 1, (.c (.int .i64 128))), (32, 1, (.c (.int .i64 48))), (33, 1, (.c (.int .i64 48))), (34, 1, (.c (.int .i64 20))), (35, 1, (.c (.int .i64 3))), (36, 1, (.c (.int .i64 1))), (37, 1, (.c (.int .i64 24))), (38, 1, (.c (.int .i64 64))), (39, 1, (.c (.int .i64 9)))], none⟩ ::
⟨some 3, .box [.int .i64 0, .int .i64 0, .int .i64 0, .int .i64 0, .int .i64 0, .int .i64 0, .int .i64 0, .int .i64 0, .int .i64 0, .int .i64 0, .int .i64 0, .int .i64 0, .int .i64 0, .int .i64 0, .int .i64 0, .int .i64 0, .int .i64 0, .int .i64 0, .int .i64 0, .int .i64 0, .int .i64 0, .int .i64 0, .int .i64 0, .int .i64 0, .int .i64 0, .int .i64 0, .int .i64 0, .int .i64 0, .int .i64 0, .int .i64 0, .int .i64 0, .int .i64 0, .int .i64 0, .int .i64 0, .int .i64 0, .int .i64 0, .int .i64 0, .int .i64 0, .int .i64 0, .int .i64 0], none⟩ ::
⟨none, .store 40 (.t 3) (.t 4), none⟩ ::
[]))
(.seq
(.reg (⟨some 5, .mov (.t 0), none⟩ ::
⟨some 6, .indexArr 1 40 (.t 3) (.t 5), none⟩ ::
⟨some 7, .loadI .i64 (.t 6), none⟩ ::
⟨some 2, .mov (.t 7), none⟩ ::
[]))
.ret)))
def rd_field_bits : List RD := [.tmp 2 true none]
theorem ok_field_bits : fnOk Tryz.prog Tryz.f152 ir_field_bits rd_field_bits = true := by kernel_rfl
def S_field_bits : List AV → List Obj → Option (Prop × AV)
  | [.int .i64 n], [] => some (0 ≤ n ∧ n < 40, .int .i64 (bitsL.getD n.toNat 0))
  | _, _ => none
theorem snd_field_bits : SoundS Tryz.prog 152 (RoF S_field_bits).sum := by
  refine ro_fn Tryz.func152 ok_field_bits (env_nil _) fun args objs p v e => ?_
  unfold S_field_bits at e
  split at e
  · rename_i n
    cases e
    refine ⟨rfl, fun hw _ hp => ?_⟩
    repeat' (intro t ht; first | (cases t <;> first | (cases ht; done) | ((try simp only [Bool.not_eq_eq_eq_not, Bool.not_true, Bool.not_false, Bool.and_eq_true, Bool.and_eq_false_iff, decide_eq_true_eq, decide_eq_false_iff_not] at ht); (try simp only [Int.toNat_natCast, dflt_int] at ht))) | (refine ht ?_ ?_ <;> clear ht) | (refine ht.1 ?_ ?_ <;> clear ht) | (refine ht ?_; clear ht))
    · exact hp
    · show 0 + n.toNat * 1 < 40; omega
    · exact ⟨by simp [bitsL], rfl⟩
  · cases e
theorem bits_le : ∀ k < 40, 1 ≤ bitsL.getD k 0 ∧ bitsL.getD k 0 ≤ 128 := by decide
def sizeF (n : Int) : Int := if n = 28 ∨ n = 34 then 4 else (bitsL.getD n.toNat 0 + 7) / 8
def ir_field_size : IR :=
(.seq
(.keep [0]
(.reg (⟨some 2, .mov (.c (.int .i64 0)), none⟩ ::
[])))
(.seq
(.seq
(.reg (⟨some 3, .mov (.t 0), none⟩ ::
[]))
(.block 0
(.seq
(.seq
(.reg (⟨some 5, .bin .eql (.t 3) (.c (.int .i64 28)), none⟩ ::
⟨some 4, .mov (.t 5), none⟩ ::
[]))
(.cond (.t 4)
.skip
(.reg (⟨some 6, .bin .eql (.t 3) (.c (.int .i64 34)), none⟩ ::
⟨some 4, .mov (.t 6), none⟩ ::
[]))))
(.cond (.t 4)
(.seq
(.keep []
(.reg (⟨some 2, .mov (.c (.int .i64 4)), none⟩ ::
[])))
.ret)
.skip))))
(.seq
(.keep [0]
(.reg (⟨some 7, .mov (.t 0), none⟩ ::
⟨some 8, .call false (.f 152) [(.t 7)], none⟩ ::
⟨some 9, .bin .add (.t 8) (.c (.int .i64 8)), none⟩ ::
⟨some 10, .bin .sub (.t 9) (.c (.int .i64 1)), none⟩ ::
⟨some 11, .bin .quo (.t 10) (.c (.int .i64 8)), none⟩ ::
⟨some 2, .mov (.t 11), none⟩ ::
[])))
.ret)))
def rd_field_size : List RD := [.tmp 2 true none]
theorem ok_field_size : fnOk Tryz.prog Tryz.f153 ir_field_size rd_field_size = true := by kernel_rfl
def S_field_size : List AV → List Obj → Option (Prop × AV)
  | [.int .i64 n], [] => some (0 ≤ n ∧ n < 40, .int .i64 (sizeF n))
  | _, _ => none
theorem snd_field_size : SoundS Tryz.prog 153 (RoF S_field_size).sum := by
  refine ro_fn Tryz.func153 ok_field_size (env_cons (s := RoF S_field_bits) snd_field_bits (env_nil _)) fun args objs p v e => ?_
  unfold S_field_size at e
  split at e
  · rename_i n
    cases e
    refine ⟨rfl, fun hw _ hp => ?_⟩
    repeat' (intro t ht; first | (cases t <;> first | (cases ht; done) | ((try simp only [Bool.not_eq_eq_eq_not, Bool.not_true, Bool.not_false, Bool.and_eq_true, Bool.and_eq_false_iff, decide_eq_true_eq, decide_eq_false_iff_not] at ht); (try simp only [Int.toNat_natCast, dflt_int] at ht))) | (refine ht ?_ ?_ <;> clear ht) | (refine ht.1 ?_ ?_ <;> clear ht) | (refine ht ?_; clear ht))
    all_goals have hb := bits_le n.toNat (by omega)
    all_goals generalize hB : bitsL.getD n.toNat 0 = B at *
    all_goals first
      | exact hp
      | exact (by decide)
      | (exfalso; (try simp only [Int.toNat_natCast, dflt_int, decide_eq_true_eq, decide_eq_false_iff_not, Bool.not_eq_eq_eq_not, Bool.not_true, Bool.not_false, Bool.and_eq_true, Bool.and_eq_false_iff, min_i64, max_i64, min_u64, max_u64, min_u32, max_u32, min_u16, max_u16, min_u8, max_u8] at *); omega)
      | ((try simp only [Int.toNat_natCast, dflt_int, decide_eq_true_eq, decide_eq_false_iff_not, Bool.not_eq_eq_eq_not, Bool.not_true, Bool.not_false, Bool.and_eq_true, Bool.and_eq_false_iff, min_i64, max_i64, min_u64, max_u64, min_u32, max_u32, min_u16, max_u16, min_u8, max_u8] at *); omega)
      | ((try simp only [Int.toNat_natCast, dflt_int, decide_eq_true_eq, decide_eq_false_iff_not, Bool.not_eq_eq_eq_not, Bool.not_true, Bool.not_false, Bool.and_eq_true, Bool.and_eq_false_iff, min_i64, max_i64, min_u64, max_u64, min_u32, max_u32, min_u16, max_u16, min_u8, max_u8] at *); rw [tdiv_nn (by omega)]; omega)
      | (refine ⟨?_, rfl⟩; unfold sizeF; rw [tdiv_nn (by omega), hB, if_neg (by (try simp only [Int.toNat_natCast, dflt_int, decide_eq_true_eq, decide_eq_false_iff_not, Bool.not_eq_eq_eq_not, Bool.not_true, Bool.not_false, Bool.and_eq_true, Bool.and_eq_false_iff, min_i64, max_i64, min_u64, max_u64, min_u32, max_u32, min_u16, max_u16, min_u8, max_u8] at *); omega)]; congr 2; omega)
      | (refine ⟨?_, rfl⟩; unfold sizeF; rw [if_pos (by (try simp only [Int.toNat_natCast, dflt_int, decide_eq_true_eq, decide_eq_false_iff_not, Bool.not_eq_eq_eq_not, Bool.not_true, Bool.not_false, Bool.and_eq_true, Bool.and_eq_false_iff, min_i64, max_i64, min_u64, max_u64, min_u32, max_u32, min_u16, max_u16, min_u8, max_u8] at *); omega)])
  · cases e
def maskedF (n : Int) : Bool := [2, 3, 4, 6, 11, 12, 37, 38, 39, 22, 23, 24, 25, 26, 27, 28].contains n
def ir_field_masked : IR :=
(.seq
(.keep [0]
(.reg (⟨some 2, .mov (.c (.kb false)), none⟩ ::
[])))
(.seq
(.seq
(.reg (⟨some 3, .mov (.t 0), none⟩ ::
[]))
(.block 0
(.seq
(.block 2
(.block 1
(.seq
(.seq
(.seq
(.seq
(.reg (⟨some 5, .bin .eql (.t 3) (.c (.int .i64 2)), none⟩ ::
⟨some 4, .mov (.t 5), none⟩ ::
[]))
(.cond (.t 4)
.skip
(.seq
(.reg (⟨some 6, .bin .eql (.t 3) (.c (.int .i64 3)), none⟩ ::
⟨some 4, .mov (.t 6), none⟩ ::
[]))
(.cond (.t 4)
.skip
(.seq
(.keep [3]
(.reg (⟨some 7, .bin .eql (.t 3) (.c (.int .i64 4)), none⟩ ::
⟨some 4, .mov (.t 7), none⟩ ::
[])))
(.cond (.t 4)
.skip
(.seq
(.reg (⟨some 8, .bin .eql (.t 3) (.c (.int .i64 6)), none⟩ ::
⟨some 4, .mov (.t 8), none⟩ ::
[]))
(.cond (.t 4)
.skip
(.seq
(.reg (⟨some 9, .bin .eql (.t 3) (.c (.int .i64 11)), none⟩ ::
⟨some 4, .mov (.t 9), none⟩ ::
[]))
(.cond (.t 4)
.skip
(.seq
(.keep [3]
(.reg (⟨some 10, .bin .eql (.t 3) (.c (.int .i64 12)), none⟩ ::
⟨some 4, .mov (.t 10), none⟩ ::
[])))
(.cond (.t 4)
.skip
(.seq
(.reg (⟨some 11, .bin .eql (.t 3) (.c (.int .i64 37)), none⟩ ::
⟨some 4, .mov (.t 11), none⟩ ::
[]))
(.cond (.t 4)
.skip
(.seq
(.reg (⟨some 12, .bin .eql (.t 3) (.c (.int .i64 38)), none⟩ ::
⟨some 4, .mov (.t 12), none⟩ ::
[]))
(.cond (.t 4)
.skip
(.keep [3]
(.reg (⟨some 13, .bin .eql (.t 3) (.c (.int .i64 39)), none⟩ ::
⟨some 4, .mov (.t 13), none⟩ ::
[])))))))))))))))))))
(.cond (.t 4)
(.exit 1)
.skip))
(.seq
(.seq
(.keep [3]
(.reg (⟨some 15, .bin .eql (.t 3) (.c (.int .i64 22)), none⟩ ::
⟨some 14, .mov (.t 15), none⟩ ::
[])))
(.cond (.t 14)
.skip
(.seq
(.reg (⟨some 16, .bin .eql (.t 3) (.c (.int .i64 23)), none⟩ ::
⟨some 14, .mov (.t 16), none⟩ ::
[]))
(.cond (.t 14)
.skip
(.seq
(.reg (⟨some 17, .bin .eql (.t 3) (.c (.int .i64 24)), none⟩ ::
⟨some 14, .mov (.t 17), none⟩ ::
[]))
(.cond (.t 14)
.skip
(.seq
(.keep [3]
(.reg (⟨some 18, .bin .eql (.t 3) (.c (.int .i64 25)), none⟩ ::
⟨some 14, .mov (.t 18), none⟩ ::
[])))
(.cond (.t 14)
.skip
(.seq
(.reg (⟨some 19, .bin .eql (.t 3) (.c (.int .i64 26)), none⟩ ::
⟨some 14, .mov (.t 19), none⟩ ::
[]))
(.cond (.t 14)
.skip
(.seq
(.reg (⟨some 20, .bin .eql (.t 3) (.c (.int .i64 27)), none⟩ ::
⟨some 14, .mov (.t 20), none⟩ ::
[]))
(.cond (.t 14)
.skip
(.keep [3]
(.reg (⟨some 21, .bin .eql (.t 3) (.c (.int .i64 28)), none⟩ ::
⟨some 14, .mov (.t 21), none⟩ ::
[])))))))))))))))
(.cond (.t 14)
(.exit 2)
.skip)))
(.exit 0))))
(.seq
(.seq
(.keep []
(.reg (⟨some 2, .mov (.c (.kb true)), none⟩ ::
[])))
.ret)
(.exit 0)))))
(.seq
(.keep []
(.reg (⟨some 2, .mov (.c (.kb false)), none⟩ ::
[])))
.ret)))
def rd_field_masked : List RD := [.tmp 2 true none]
theorem ok_field_masked : fnOk Tryz.prog Tryz.f154 ir_field_masked rd_field_masked = true := by kernel_rfl
def S_field_masked : List AV → List Obj → Option (Prop × AV)
  | [.int .i64 n], [] => some (True, .bool (maskedF n))
  | _, _ => none
theorem snd_field_masked : SoundS Tryz.prog 154 (RoF S_field_masked).sum := by
  refine ro_fn Tryz.func154 ok_field_masked (env_nil _) fun args objs p v e => ?_
  unfold S_field_masked at e
  split at e
  · rename_i n
    cases e
    refine ⟨rfl, fun hw _ hp => ?_⟩
    repeat' (intro t ht; first | (cases t <;> first | (cases ht; done) | ((try simp only [Bool.not_eq_eq_eq_not, Bool.not_true, Bool.not_false, Bool.and_eq_true, Bool.and_eq_false_iff, decide_eq_true_eq, decide_eq_false_iff_not] at ht); (try simp only [Int.toNat_natCast, dflt_int] at ht))) | (refine ht ?_ ?_ <;> clear ht) | (refine ht.1 ?_ ?_ <;> clear ht) | (refine ht ?_; clear ht))
    all_goals refine ⟨?_, rfl⟩
    all_goals (congr 1; simp_all [maskedF]; done)
  · cases e
def deepF (n : Int) : Int × List Int :=
  if n = 13 ∨ n = 14 then (10, [6]) else if n = 15 ∨ n = 16 then (10, [17]) else if n = 17 ∨ n = 18 then (10, [132]) else if n = 19 ∨ n = 20 then (10, [1])
  else if n = 29 ∨ n = 30 then (10, [58]) else if n = 31 then (29, [135, 136]) else if n = 32 then (29, [135]) else if n = 33 then (29, [136]) else (-1, [])
def ir_field_deep : IR :=
(.seq
(.keep [0]
(.reg (⟨some 2, .mov (.c (.int .i64 0)), none⟩ ::
⟨some 3, .mov (.c (.imm (.int .u64) [])), none⟩ ::
[])))
(.seq
(.seq
(.reg (⟨some 4, .mov (.t 0), none⟩ ::
[]))
(.block 0
(.seq
(.seq
(.reg (⟨some 6, .bin .eql (.t 4) (.c (.int .i64 13)), none⟩ ::
⟨some 5, .mov (.t 6), none⟩ ::
[]))
(.cond (.t 5)
.skip
(.reg (⟨some 7, .bin .eql (.t 4) (.c (.int .i64 14)), none⟩ ::
⟨some 5, .mov (.t 7), none⟩ ::
[]))))
(.cond (.t 5)
(.seq
(.keep []
(.reg (⟨some 8, .sliceAll (.int .u64) 1 [(0, 1, (.c (.int .u64 6)))], none⟩ ::
⟨some 2, .mov (.c (.int .i64 10)), none⟩ ::
⟨some 3, .mov (.t 8), none⟩ ::
[])))
.ret)
(.seq
(.seq
(.keep [0, 4]
(.reg (⟨some 10, .bin .eql (.t 4) (.c (.int .i64 15)), none⟩ ::
⟨some 9, .mov (.t 10), none⟩ ::
[])))
(.cond (.t 9)
.skip
(.reg (⟨some 11, .bin .eql (.t 4) (.c (.int .i64 16)), none⟩ ::
⟨some 9, .mov (.t 11), none⟩ ::
[]))))
(.cond (.t 9)
(.seq
(.reg (⟨some 12, .sliceAll (.int .u64) 1 [(0, 1, (.c (.int .u64 17)))], none⟩ ::
⟨some 2, .mov (.c (.int .i64 10)), none⟩ ::
⟨some 3, .mov (.t 12), none⟩ ::
[]))
.ret)
(.seq
(.seq
(.reg (⟨some 14, .bin .eql (.t 4) (.c (.int .i64 17)), none⟩ ::
⟨some 13, .mov (.t 14), none⟩ ::
[]))
(.cond (.t 13)
.skip
(.keep [0, 4]
(.reg (⟨some 15, .bin .eql (.t 4) (.c (.int .i64 18)), none⟩ ::
⟨some 13, .mov (.t 15), none⟩ ::
[])))))
(.cond (.t 13)
(.seq
(.keep []
(.reg (⟨some 16, .sliceAll (.int .u64) 1 [(0, 1, (.c (.int .u64 132)))], none⟩ ::
⟨some 2, .mov (.c (.int .i64 10)), none⟩ ::
⟨some 3, .mov (.t 16), none⟩ ::
[])))
.ret)
(.seq
(.seq
(.keep [0, 4]
(.reg (⟨some 18, .bin .eql (.t 4) (.c (.int .i64 19)), none⟩ ::
⟨some 17, .mov (.t 18), none⟩ ::
[])))
(.cond (.t 17)
.skip
(.reg (⟨some 19, .bin .eql (.t 4) (.c (.int .i64 20)), none⟩ ::
⟨some 17, .mov (.t 19), none⟩ ::
[]))))
(.cond (.t 17)
(.seq
(.reg (⟨some 20, .sliceAll (.int .u64) 1 [(0, 1, (.c (.int .u64 1)))], none⟩ ::
⟨some 2, .mov (.c (.int .i64 10)), none⟩ ::
⟨some 3, .mov (.t 20), none⟩ ::
[]))
.ret)
(.seq
(.seq
(.reg (⟨some 22, .bin .eql (.t 4) (.c (.int .i64 29)), none⟩ ::
⟨some 21, .mov (.t 22), none⟩ ::
[]))
(.cond (.t 21)
.skip
(.keep [0, 4]
(.reg (⟨some 23, .bin .eql (.t 4) (.c (.int .i64 30)), none⟩ ::
⟨some 21, .mov (.t 23), none⟩ ::
[])))))
(.cond (.t 21)
(.seq
(.keep []
(.reg (⟨some 24, .sliceAll (.int .u64) 1 [(0, 1, (.c (.int .u64 58)))], none⟩ ::
⟨some 2, .mov (.c (.int .i64 10)), none⟩ ::
⟨some 3, .mov (.t 24), none⟩ ::
[])))
.ret)
(.seq
(.keep [0, 4]
(.reg (⟨some 26, .bin .eql (.t 4) (.c (.int .i64 31)), none⟩ ::
⟨some 25, .mov (.t 26), none⟩ ::
[])))
(.cond (.t 25)
(.seq
(.reg (⟨some 27, .sliceAll (.int .u64) 2 [(0, 1, (.c (.int .u64 135))), (1, 1, (.c (.int .u64 136)))], none⟩ ::
⟨some 2, .mov (.c (.int .i64 29)), none⟩ ::
⟨some 3, .mov (.t 27), none⟩ ::
[]))
.ret)
(.seq
(.seq
(.reg (⟨some 29, .bin .eql (.t 4) (.c (.int .i64 32)), none⟩ ::
⟨some 28, .mov (.t 29), none⟩ ::
[]))
(.cond (.t 28)
.skip
(.reg (⟨some 30, .bin .eql (.t 4) (.c (.int .i64 33)), none⟩ ::
⟨some 28, .mov (.t 30), none⟩ ::
[]))))
(.cond (.t 28)
(.seq
(.keep [0]
(.reg (⟨some 31, .mov (.t 0), none⟩ ::
⟨some 32, .conv .u64 (.t 31), none⟩ ::
⟨some 33, .bin .add (.t 32) (.c (.int .u64 103)), none⟩ ::
⟨some 34, .sliceAll (.int .u64) 1 [(0, 1, (.t 33))], none⟩ ::
⟨some 2, .mov (.c (.int .i64 29)), none⟩ ::
⟨some 3, .mov (.t 34), none⟩ ::
[])))
.ret)
.skip))))))))))))))))
(.seq
(.keep []
(.reg (⟨some 2, .mov (.c (.int .i64 (-1))), none⟩ ::
⟨some 3, .mov (.c (.imm (.int .u64) [])), none⟩ ::
[])))
.ret)))
def rd_field_deep : List RD := [.tmp 2 true none, .tmp 3 true (some (.int .u64))]
theorem ok_field_deep : fnOk Tryz.prog Tryz.f162 ir_field_deep rd_field_deep = true := by kernel_rfl
def S_field_deep : List AV → List Obj → Option (Prop × AV)
  | [.int .i64 n], [] => some (True, .tup [.int .i64 (deepF n).1, .imm (.int .u64) (deepF n).2])
  | _, _ => none
theorem snd_field_deep : SoundS Tryz.prog 162 (RoF S_field_deep).sum := by
  refine ro_fn Tryz.func162 ok_field_deep (env_nil _) fun args objs p v e => ?_
  unfold S_field_deep at e
  split at e
  · rename_i n
    cases e
    refine ⟨rfl, fun hw _ hp => ?_⟩
    repeat' (intro t ht; first | (cases t <;> first | (cases ht; done) | ((try simp only [Bool.not_eq_eq_eq_not, Bool.not_true, Bool.not_false, Bool.and_eq_true, Bool.and_eq_false_iff, decide_eq_true_eq, decide_eq_false_iff_not] at ht); (try simp only [Int.toNat_natCast, dflt_int] at ht))) | (refine ht ?_ ?_ <;> clear ht) | (refine ht.1 ?_ ?_ <;> clear ht) | (refine ht ?_; clear ht))
    all_goals first
      | (exfalso; (try simp only [Int.toNat_natCast, dflt_int, decide_eq_true_eq, decide_eq_false_iff_not, Bool.not_eq_eq_eq_not, Bool.not_true, Bool.not_false, Bool.and_eq_true, Bool.and_eq_false_iff, min_i64, max_i64, min_u64, max_u64, min_u32, max_u32, min_u16, max_u16, min_u8, max_u8] at *); omega)
      | (refine ⟨?_, rfl⟩; simp_all [deepF]; done)
      | ((try simp only [Int.toNat_natCast, dflt_int, decide_eq_true_eq, decide_eq_false_iff_not, Bool.not_eq_eq_eq_not, Bool.not_true, Bool.not_false, Bool.and_eq_true, Bool.and_eq_false_iff, min_i64, max_i64, min_u64, max_u64, min_u32, max_u32, min_u16, max_u16, min_u8, max_u8] at *); omega)
      | ((try simp only [Int.toNat_natCast, dflt_int, decide_eq_true_eq, decide_eq_false_iff_not, Bool.not_eq_eq_eq_not, Bool.not_true, Bool.not_false, Bool.and_eq_true, Bool.and_eq_false_iff, min_i64, max_i64, min_u64, max_u64, min_u32, max_u32, min_u16, max_u16, min_u8, max_u8] at *); subst_vars; exact ⟨rfl, rfl⟩)
      | ((try simp only [Int.toNat_natCast, dflt_int, decide_eq_true_eq, decide_eq_false_iff_not, Bool.not_eq_eq_eq_not, Bool.not_true, Bool.not_false, Bool.and_eq_true, Bool.and_eq_false_iff, min_i64, max_i64, min_u64, max_u64, min_u32, max_u32, min_u16, max_u16, min_u8, max_u8] at *); have hn : n = 32 ∨ n = 33 := by omega
         rcases hn with rfl | rfl <;> exact ⟨rfl, rfl⟩)
      | trace_state
  · cases e
def needF (n : Int) : Int × List Int :=
  if n = 1 then (0, []) else if n = 7 then (6, []) else if n = 8 ∨ n = 9 ∨ n = 10 then (5, [2048, 34525]) else if n = 11 ∨ n = 12 then (5, [2048])
  else if n = 21 ∨ n = 22 ∨ n = 23 ∨ n = 24 ∨ n = 25 then (5, [2054]) else if n = 26 ∨ n = 27 ∨ n = 28 ∨ n = 39 then (5, [34525])
  else if n = 34 ∨ n = 35 ∨ n = 36 then (5, [34887, 34888]) else if n = 37 then (5, [35047]) else deepF n
def ir_field_need : IR :=
(.seq
(.keep [0]
(.reg (⟨some 2, .mov (.c (.int .i64 0)), none⟩ ::
⟨some 3, .mov (.c (.imm (.int .u64) [])), none⟩ ::
[])))
(.seq
(.seq
(.reg (⟨some 4, .mov (.t 0), none⟩ ::
[]))
(.block 0
(.seq
(.reg (⟨some 6, .bin .eql (.t 4) (.c (.int .i64 1)), none⟩ ::
⟨some 5, .mov (.t 6), none⟩ ::
[]))
(.cond (.t 5)
(.seq
(.reg (⟨some 2, .mov (.c (.int .i64 0)), none⟩ ::
⟨some 3, .mov (.c (.imm (.int .u64) [])), none⟩ ::
[]))
.ret)
(.seq
(.reg (⟨some 8, .bin .eql (.t 4) (.c (.int .i64 7)), none⟩ ::
⟨some 7, .mov (.t 8), none⟩ ::
[]))
(.cond (.t 7)
(.seq
(.keep []
(.reg (⟨some 2, .mov (.c (.int .i64 6)), none⟩ ::
⟨some 3, .mov (.c (.imm (.int .u64) [])), none⟩ ::
[])))
.ret)
(.seq
(.seq
(.keep [0, 4]
(.reg (⟨some 10, .bin .eql (.t 4) (.c (.int .i64 8)), none⟩ ::
⟨some 9, .mov (.t 10), none⟩ ::
[])))
(.cond (.t 9)
.skip
(.seq
(.reg (⟨some 11, .bin .eql (.t 4) (.c (.int .i64 9)), none⟩ ::
⟨some 9, .mov (.t 11), none⟩ ::
[]))
(.cond (.t 9)
.skip
(.reg (⟨some 12, .bin .eql (.t 4) (.c (.int .i64 10)), none⟩ ::
⟨some 9, .mov (.t 12), none⟩ ::
[]))))))
(.cond (.t 9)
(.seq
(.keep []
(.reg (⟨some 13, .sliceAll (.int .u64) 2 [(0, 1, (.c (.int .u64 2048))), (1, 1, (.c (.int .u64 34525)))], none⟩ ::
⟨some 2, .mov (.c (.int .i64 5)), none⟩ ::
⟨some 3, .mov (.t 13), none⟩ ::
[])))
.ret)
(.seq
(.seq
(.keep [0, 4]
(.reg (⟨some 15, .bin .eql (.t 4) (.c (.int .i64 11)), none⟩ ::
⟨some 14, .mov (.t 15), none⟩ ::
[])))
(.cond (.t 14)
.skip
(.reg (⟨some 16, .bin .eql (.t 4) (.c (.int .i64 12)), none⟩ ::
⟨some 14, .mov (.t 16), none⟩ ::
[]))))
(.cond (.t 14)
(.seq
(.reg (⟨some 17, .sliceAll (.int .u64) 1 [(0, 1, (.c (.int .u64 2048)))], none⟩ ::
⟨some 2, .mov (.c (.int .i64 5)), none⟩ ::
⟨some 3, .mov (.t 17), none⟩ ::
[]))
.ret)
(.seq
(.seq
(.reg (⟨some 19, .bin .eql (.t 4) (.c (.int .i64 21)), none⟩ ::
⟨some 18, .mov (.t 19), none⟩ ::
[]))
(.cond (.t 18)
.skip
(.seq
(.keep [0, 4]
(.reg (⟨some 20, .bin .eql (.t 4) (.c (.int .i64 22)), none⟩ ::
⟨some 18, .mov (.t 20), none⟩ ::
[])))
(.cond (.t 18)
.skip
(.seq
(.reg (⟨some 21, .bin .eql (.t 4) (.c (.int .i64 23)), none⟩ ::
⟨some 18, .mov (.t 21), none⟩ ::
[]))
(.cond (.t 18)
.skip
(.seq
(.reg (⟨some 22, .bin .eql (.t 4) (.c (.int .i64 24)), none⟩ ::
⟨some 18, .mov (.t 22), none⟩ ::
[]))
(.cond (.t 18)
.skip
(.keep [0, 4]
(.reg (⟨some 23, .bin .eql (.t 4) (.c (.int .i64 25)), none⟩ ::
⟨some 18, .mov (.t 23), none⟩ ::
[])))))))))))
(.cond (.t 18)
(.seq
(.keep []
(.reg (⟨some 24, .sliceAll (.int .u64) 1 [(0, 1, (.c (.int .u64 2054)))], none⟩ ::
⟨some 2, .mov (.c (.int .i64 5)), none⟩ ::
⟨some 3, .mov (.t 24), none⟩ ::
[])))
.ret)
(.seq
(.seq
(.keep [0, 4]
(.reg (⟨some 26, .bin .eql (.t 4) (.c (.int .i64 26)), none⟩ ::
⟨some 25, .mov (.t 26), none⟩ ::
[])))
(.cond (.t 25)
.skip
(.seq
(.reg (⟨some 27, .bin .eql (.t 4) (.c (.int .i64 27)), none⟩ ::
⟨some 25, .mov (.t 27), none⟩ ::
[]))
(.cond (.t 25)
.skip
(.seq
(.reg (⟨some 28, .bin .eql (.t 4) (.c (.int .i64 28)), none⟩ ::
⟨some 25, .mov (.t 28), none⟩ ::
[]))
(.cond (.t 25)
.skip
(.keep [0, 4]
(.reg (⟨some 29, .bin .eql (.t 4) (.c (.int .i64 39)), none⟩ ::
⟨some 25, .mov (.t 29), none⟩ ::
[])))))))))
(.cond (.t 25)
(.seq
(.keep []
(.reg (⟨some 30, .sliceAll (.int .u64) 1 [(0, 1, (.c (.int .u64 34525)))], none⟩ ::
⟨some 2, .mov (.c (.int .i64 5)), none⟩ ::
⟨some 3, .mov (.t 30), none⟩ ::
[])))
.ret)
(.seq
(.seq
(.keep [0, 4]
(.reg (⟨some 32, .bin .eql (.t 4) (.c (.int .i64 34)), none⟩ ::
⟨some 31, .mov (.t 32), none⟩ ::
[])))
(.cond (.t 31)
.skip
(.seq
(.reg (⟨some 33, .bin .eql (.t 4) (.c (.int .i64 35)), none⟩ ::
⟨some 31, .mov (.t 33), none⟩ ::
[]))
(.cond (.t 31)
.skip
(.reg (⟨some 34, .bin .eql (.t 4) (.c (.int .i64 36)), none⟩ ::
⟨some 31, .mov (.t 34), none⟩ ::
[]))))))
(.cond (.t 31)
(.seq
(.keep []
(.reg (⟨some 35, .sliceAll (.int .u64) 2 [(0, 1, (.c (.int .u64 34887))), (1, 1, (.c (.int .u64 34888)))], none⟩ ::
⟨some 2, .mov (.c (.int .i64 5)), none⟩ ::
⟨some 3, .mov (.t 35), none⟩ ::
[])))
.ret)
(.seq
(.keep [0, 4]
(.reg (⟨some 37, .bin .eql (.t 4) (.c (.int .i64 37)), none⟩ ::
⟨some 36, .mov (.t 37), none⟩ ::
[])))
(.cond (.t 36)
(.seq
(.reg (⟨some 38, .sliceAll (.int .u64) 1 [(0, 1, (.c (.int .u64 35047)))], none⟩ ::
⟨some 2, .mov (.c (.int .i64 5)), none⟩ ::
⟨some 3, .mov (.t 38), none⟩ ::
[]))
.ret)
.skip))))))))))))))))))
(.seq
(.keep [0]
(.reg (⟨some 39, .mov (.t 0), none⟩ ::
⟨some 40, .call false (.f 162) [(.t 39)], none⟩ ::
⟨some 41, .extract (.t 40) 0, none⟩ ::
⟨some 42, .extract (.t 40) 1, none⟩ ::
⟨some 2, .mov (.t 41), none⟩ ::
⟨some 3, .mov (.t 42), none⟩ ::
[])))
.ret)))
def rd_field_need : List RD := [.tmp 2 true none, .tmp 3 true (some (.int .u64))]
theorem ok_field_need : fnOk Tryz.prog Tryz.f155 ir_field_need rd_field_need = true := by kernel_rfl
def S_field_need : List AV → List Obj → Option (Prop × AV)
  | [.int .i64 n], [] => some (True, .tup [.int .i64 (needF n).1, .imm (.int .u64) (needF n).2])
  | _, _ => none
theorem snd_field_need : SoundS Tryz.prog 155 (RoF S_field_need).sum := by
  refine ro_fn Tryz.func155 ok_field_need (env_cons (s := RoF S_field_deep) snd_field_deep (env_nil _)) fun args objs p v e => ?_
  unfold S_field_need at e
  split at e
  · rename_i n
    cases e
    refine ⟨rfl, fun hw _ hp => ?_⟩
    repeat' (intro t ht; first | (cases t <;> first | (cases ht; done) | ((try simp only [Bool.not_eq_eq_eq_not, Bool.not_true, Bool.not_false, Bool.and_eq_true, Bool.and_eq_false_iff, decide_eq_true_eq, decide_eq_false_iff_not] at ht); (try simp only [Int.toNat_natCast, dflt_int] at ht))) | (refine ht ?_ ?_ <;> clear ht) | (refine ht.1 ?_ ?_ <;> clear ht) | (refine ht ?_; clear ht))
    all_goals first
      | trivial
      | (exfalso; (try simp only [Int.toNat_natCast, dflt_int, decide_eq_true_eq, decide_eq_false_iff_not, Bool.not_eq_eq_eq_not, Bool.not_true, Bool.not_false, Bool.and_eq_true, Bool.and_eq_false_iff, min_i64, max_i64, min_u64, max_u64, min_u32, max_u32, min_u16, max_u16, min_u8, max_u8] at *); omega)
      | (refine ⟨?_, rfl⟩; simp_all [needF]; done)
      | ((try simp only [Int.toNat_natCast, dflt_int, decide_eq_true_eq, decide_eq_false_iff_not, Bool.not_eq_eq_eq_not, Bool.not_true, Bool.not_false, Bool.and_eq_true, Bool.and_eq_false_iff, min_i64, max_i64, min_u64, max_u64, min_u32, max_u32, min_u16, max_u16, min_u8, max_u8] at *); subst_vars; exact ⟨rfl, rfl⟩)
      | trace_state
  · cases e
def namesL : List (List Int) := [[105, 110, 95, 112, 111, 114, 116], [105, 110, 95, 112, 104, 121, 95, 112, 111, 114, 116], [109, 101, 116, 97, 100, 97, 116, 97], [101, 116, 104, 95, 100, 115, 116], [101, 116, 104, 95, 115, 114, 99], [101, 116, 104, 95, 116, 121, 112, 101], [118, 108, 97, 110, 95, 118, 105, 100], [118, 108, 97, 110, 95, 112, 99, 112], [105, 112, 95, 100, 115, 99, 112], [105, 112, 95, 101, 99, 110], [105, 112, 95, 112, 114, 111, 116, 111], [105, 112, 118, 52, 95, 115, 114, 99], [105, 112, 118, 52, 95, 100, 115, 116], [116, 99, 112, 95, 115, 114, 99], [116, 99, 112, 95, 100, 115, 116], [117, 100, 112, 95, 115, 114, 99], [117, 100, 112, 95, 100, 115, 116], [115, 99, 116, 112, 95, 115, 114, 99], [115, 99, 116, 112, 95, 100, 115, 116], [105, 99, 109, 112, 118, 52, 95, 116, 121, 112, 101], [105, 99, 109, 112, 118, 52, 95, 99, 111, 100, 101], [97, 114, 112, 95, 111, 112], [97, 114, 112, 95, 115, 112, 97], [97, 114, 112, 95, 116, 112, 97], [97, 114, 112, 95, 115, 104, 97], [97, 114, 112, 95, 116, 104, 97], [105, 112, 118, 54, 95, 115, 114, 99], [105, 112, 118, 54, 95, 100, 115, 116], [105, 112, 118, 54, 95, 102, 108, 97, 98, 101, 108], [105, 99, 109, 112, 118, 54, 95, 116, 121, 112, 101], [105, 99, 109, 112, 118, 54, 95, 99, 111, 100, 101], [105, 112, 118, 54, 95, 110, 100, 95, 116, 97, 114, 103, 101, 116], [105, 112, 118, 54, 95, 110, 100, 95, 115, 108, 108], [105, 112, 118, 54, 95, 110, 100, 95, 116, 108, 108], [109, 112, 108, 115, 95, 108, 97, 98, 101, 108], [109, 112, 108, 115, 95, 116, 99], [109, 112, 108, 115, 95, 98, 111, 115], [112, 98, 98, 95, 105, 115, 105, 100], [116, 117, 110, 110, 101, 108, 95, 105, 100], [105, 112, 118, 54, 95, 101, 120, 116, 104, 100, 114]]
def nameF (n : Int) : List Int := if fIs n then namesL.getD n.toNat [] else []
def settF (n : Int) : Bool := decide (2 < n) && decide (n < 39)
def ir_field_Settable : IR :=
(.seq
(.keep [0]
(.reg (⟨some 2, .mov (.c (.kb false)), none⟩ ::
[])))
(.seq
(.keep [0]
(.reg (⟨some 3, .mov (.t 0), none⟩ ::
⟨some 4, .call false (.f 124) [(.t 3)], none⟩ ::
⟨some 5, .mov (.t 4), none⟩ ::
⟨some 6, .mov (.t 0), some (5, true)⟩ ::
⟨some 7, .bin .gtr (.t 6) (.c (.int .i64 2)), some (5, true)⟩ ::
⟨some 8, .pick (.t 5) (.t 7) (.c (.kb false)), none⟩ ::
⟨some 9, .mov (.t 8), none⟩ ::
⟨some 10, .mov (.t 0), some (9, true)⟩ ::
⟨some 11, .bin .neq (.t 10) (.c (.int .i64 39)), some (9, true)⟩ ::
⟨some 12, .pick (.t 9) (.t 11) (.c (.kb false)), none⟩ ::
⟨some 2, .mov (.t 12), none⟩ ::
[])))
.ret))
def rd_field_Settable : List RD := [.tmp 2 true none]
theorem ok_field_Settable : fnOk Tryz.prog Tryz.f96 ir_field_Settable rd_field_Settable = true := by kernel_rfl
def S_field_Settable : List AV → List Obj → Option (Prop × AV)
  | [.int .i64 n], [] => some ((True, .bool (settF n)))
  | _, _ => none
theorem snd_field_Settable : SoundS Tryz.prog 96 (RoF S_field_Settable).sum := by
  refine ro_fn Tryz.func96 ok_field_Settable (env_cons (s := RoF S_field_is) snd_field_is (env_nil _)) fun args objs p v e => ?_
  unfold S_field_Settable at e
  split at e
  · rename_i n
    cases e
    refine ⟨rfl, fun hw ho hp => ?_⟩
    repeat' (intro t ht; first | (cases t <;> first | (cases ht; done) | ((try simp only [Bool.not_eq_eq_eq_not, Bool.not_true, Bool.not_false, Bool.and_eq_true, Bool.and_eq_false_iff, decide_eq_true_eq, decide_eq_false_iff_not] at ht); (try simp only [Int.toNat_natCast, dflt_int] at ht))) | (refine ht ?_ ?_ <;> clear ht) | (refine ht.1 ?_ ?_ <;> clear ht) | (refine ht ?_; clear ht))
    all_goals first
      | trivial
      | (refine ⟨?_, rfl⟩; unfold settF; congr 1; rw [Bool.eq_iff_iff]; first | (have h := fIs_t.1 (by assumption); simp at *; omega) | (have h := fIs_f.1 (by assumption); simp at *; omega) | (simp at *; omega))
  · cases e
def fBits (n : Int) : Int := if fIs n then bitsL.getD n.toNat 0 else 0
def fSize (n : Int) : Int := if fIs n then sizeF n else 0
def fMask (n : Int) : Bool := if fIs n then maskedF n else false
def fNeed (n : Int) : Int := if fIs n then (needF n).1 else 0
def fVals (n : Int) : List Int := if fIs n then (needF n).2 else []
abbrev ofF (n : Int) : AV := .tup [.agg [.int .i64 (fBits n), .int .i64 (fSize n), .bool (fMask n), .int .i64 (fNeed n), .imm (.int .u64) (fVals n)], .bool (fIs n)]
def ir_field_Of : IR :=
(.seq
(.keep [0]
(.reg (⟨some 2, .box [.int .i64 0, .int .i64 0, .kb false, .int .i64 0, .imm (.int .u64) []], none⟩ ::
⟨some 3, .mov (.c (.kb false)), none⟩ ::
[])))
(.seq
(.seq
(.reg (⟨some 5, .mov (.t 0), none⟩ ::
⟨some 6, .call false (.f 124) [(.t 5)], none⟩ ::
⟨some 7, .un .not (.t 6), none⟩ ::
[]))
(.cond (.t 7)
(.seq
(.reg (⟨some 8, .build [.int .i64 0, .int .i64 0, .kb false, .int .i64 0, .imm (.int .u64) []] [], none⟩ ::
⟨none, .store 5 (.t 2) (.t 8), none⟩ ::
⟨some 3, .mov (.c (.kb false)), none⟩ ::
[]))
.ret)
.skip))
(.seq
(.keep [0, 2]
(.reg (⟨some 9, .mov (.t 0), none⟩ ::
⟨some 10, .call false (.f 152) [(.t 9)], none⟩ ::
⟨some 11, .mov (.t 0), none⟩ ::
⟨some 12, .call false (.f 153) [(.t 11)], none⟩ ::
⟨some 13, .mov (.t 0), none⟩ ::
⟨some 14, .call false (.f 154) [(.t 13)], none⟩ ::
⟨some 15, .build [.int .i64 0, .int .i64 0, .kb false, .int .i64 0, .imm (.int .u64) []] [(0, 1, (.t 10)), (1, 1, (.t 12)), (2, 1, (.t 14))], none⟩ ::
⟨some 4, .box [.int .i64 0, .int .i64 0, .kb false, .int .i64 0, .imm (.int .u64) []], none⟩ ::
⟨none, .store 5 (.t 4) (.t 15), none⟩ ::
[])))
(.seq
(.keep [0, 2, 4]
(.reg (⟨some 17, .mov (.t 0), none⟩ ::
⟨some 18, .call false (.f 155) [(.t 17)], none⟩ ::
⟨some 16, .mov (.t 18), none⟩ ::
⟨some 19, .extract (.t 16) 0, none⟩ ::
⟨some 20, .extract (.t 16) 1, none⟩ ::
⟨some 21, .fieldAddr 3 (.t 4), none⟩ ::
⟨none, .store 1 (.t 21) (.t 19), none⟩ ::
⟨some 22, .fieldAddr 4 (.t 4), none⟩ ::
⟨none, .store 1 (.t 22) (.t 20), none⟩ ::
[])))
(.seq
(.keep [2, 4]
(.reg (⟨some 23, .load (some 5) (.t 4), none⟩ ::
⟨none, .store 5 (.t 2) (.t 23), none⟩ ::
⟨some 3, .mov (.c (.kb true)), none⟩ ::
[])))
.ret)))))
def rd_field_Of : List RD := [.cell 2 (some 5) true [], .tmp 3 true none]
theorem ok_field_Of : fnOk Tryz.prog Tryz.f133 ir_field_Of rd_field_Of = true := by kernel_rfl
def S_field_Of : List AV → List Obj → Option (Prop × AV)
  | [.int .i64 n], [] => some ((True, ofF n))
  | _, _ => none
theorem snd_field_Of : SoundS Tryz.prog 133 (RoF S_field_Of).sum := by
  refine ro_fn Tryz.func133 ok_field_Of (env_cons (s := RoF S_field_is) snd_field_is (env_cons (s := RoF S_field_bits) snd_field_bits (env_cons (s := RoF S_field_size) snd_field_size (env_cons (s := RoF S_field_masked) snd_field_masked (env_cons (s := RoF S_field_need) snd_field_need (env_nil _)))))) fun args objs p v e => ?_
  unfold S_field_Of at e
  split at e
  · rename_i n
    cases e
    refine ⟨rfl, fun hw ho hp => ?_⟩
    repeat' (intro t ht; first | (cases t <;> first | (cases ht; done) | ((try simp only [Bool.not_eq_eq_eq_not, Bool.not_true, Bool.not_false, Bool.and_eq_true, Bool.and_eq_false_iff, decide_eq_true_eq, decide_eq_false_iff_not] at ht); (try simp only [Int.toNat_natCast, dflt_int] at ht))) | (refine ht ?_ ?_ <;> clear ht) | (refine ht.1 ?_ ?_ <;> clear ht) | (refine ht ?_; clear ht))
    all_goals try (try simp only [Int.toNat_natCast, dflt_int, decide_eq_true_eq, decide_eq_false_iff_not, Bool.not_eq_eq_eq_not, Bool.not_true, Bool.not_false, Bool.and_eq_true, Bool.and_eq_false_iff, min_i64, max_i64, min_u64, max_u64, min_u32, max_u32, min_u16, max_u16, min_u8, max_u8] at *)
    all_goals first
      | exact fIs_t.1 (by assumption)
      | (simp_all [ofF, fBits, fSize, fMask, fNeed, fVals]; done)
  · cases e
def idxF : List (List Int) → List Int → Nat → Int
  | [], _, _ => -1
  | a :: r, s, k => if s = a then k else idxF r s (k + 1)
theorem idxF_step {l : List (List Int)} {s : List Int} {i : Nat} (h : i < l.length) : idxF (l.drop i) s i = if s = l.getD i [] then (i : Int) else idxF (l.drop (i + 1)) s (i + 1) := by
  rw [List.drop_eq_getElem_cons h, List.getD_eq_getElem?_getD, List.getElem?_eq_getElem h]
  rfl
theorem idxF_end {l : List (List Int)} {s : List Int} {i : Nat} (h : l.length ≤ i) : idxF (l.drop i) s i = -1 := by
  rw [List.drop_of_length_le h]; rfl
def findN (s : List Int) : Int := if 0 > idxF namesL s 0 then 0 else idxF namesL s 0
def findB (s : List Int) : Bool := decide (0 ≤ idxF namesL s 0)
abbrev fieldT : Ty := (.cons .str (.cons (.int .i64) (.cons (.int .i64) (.cons .bool (.cons (.int .i64) (.cons (.sl (.int .u64)) .nil))))))
def tab : List fieldT.den := [([105, 110, 95, 112, 111, 114, 116], 32, 4, false, -1, [], ()),
  ([105, 110, 95, 112, 104, 121, 95, 112, 111, 114, 116], 32, 4, false, 0, [], ()),
  ([109, 101, 116, 97, 100, 97, 116, 97], 64, 8, true, -1, [], ()),
  ([101, 116, 104, 95, 100, 115, 116], 48, 6, true, -1, [], ()),
  ([101, 116, 104, 95, 115, 114, 99], 48, 6, true, -1, [], ()),
  ([101, 116, 104, 95, 116, 121, 112, 101], 16, 2, false, -1, [], ()),
  ([118, 108, 97, 110, 95, 118, 105, 100], 13, 2, true, -1, [], ()),
  ([118, 108, 97, 110, 95, 112, 99, 112], 3, 1, false, 6, [], ()),
  ([105, 112, 95, 100, 115, 99, 112], 6, 1, false, 5, [2048, 34525], ()),
  ([105, 112, 95, 101, 99, 110], 2, 1, false, 5, [2048, 34525], ()),
  ([105, 112, 95, 112, 114, 111, 116, 111], 8, 1, false, 5, [2048, 34525], ()),
  ([105, 112, 118, 52, 95, 115, 114, 99], 32, 4, true, 5, [2048], ()),
  ([105, 112, 118, 52, 95, 100, 115, 116], 32, 4, true, 5, [2048], ()),
  ([116, 99, 112, 95, 115, 114, 99], 16, 2, false, 10, [6], ()),
  ([116, 99, 112, 95, 100, 115, 116], 16, 2, false, 10, [6], ()),
  ([117, 100, 112, 95, 115, 114, 99], 16, 2, false, 10, [17], ()),
  ([117, 100, 112, 95, 100, 115, 116], 16, 2, false, 10, [17], ()),
  ([115, 99, 116, 112, 95, 115, 114, 99], 16, 2, false, 10, [132], ()),
  ([115, 99, 116, 112, 95, 100, 115, 116], 16, 2, false, 10, [132], ()),
  ([105, 99, 109, 112, 118, 52, 95, 116, 121, 112, 101], 8, 1, false, 10, [1], ()),
  ([105, 99, 109, 112, 118, 52, 95, 99, 111, 100, 101], 8, 1, false, 10, [1], ()),
  ([97, 114, 112, 95, 111, 112], 16, 2, false, 5, [2054], ()),
  ([97, 114, 112, 95, 115, 112, 97], 32, 4, true, 5, [2054], ()),
  ([97, 114, 112, 95, 116, 112, 97], 32, 4, true, 5, [2054], ()),
  ([97, 114, 112, 95, 115, 104, 97], 48, 6, true, 5, [2054], ()),
  ([97, 114, 112, 95, 116, 104, 97], 48, 6, true, 5, [2054], ()),
  ([105, 112, 118, 54, 95, 115, 114, 99], 128, 16, true, 5, [34525], ()),
  ([105, 112, 118, 54, 95, 100, 115, 116], 128, 16, true, 5, [34525], ()),
  ([105, 112, 118, 54, 95, 102, 108, 97, 98, 101, 108], 20, 4, true, 5, [34525], ()),
  ([105, 99, 109, 112, 118, 54, 95, 116, 121, 112, 101], 8, 1, false, 10, [58], ()),
  ([105, 99, 109, 112, 118, 54, 95, 99, 111, 100, 101], 8, 1, false, 10, [58], ()),
  ([105, 112, 118, 54, 95, 110, 100, 95, 116, 97, 114, 103, 101, 116], 128, 16, false, 29, [135, 136], ()),
  ([105, 112, 118, 54, 95, 110, 100, 95, 115, 108, 108], 48, 6, false, 29, [135], ()),
  ([105, 112, 118, 54, 95, 110, 100, 95, 116, 108, 108], 48, 6, false, 29, [136], ()),
  ([109, 112, 108, 115, 95, 108, 97, 98, 101, 108], 20, 4, false, 5, [34887, 34888], ()),
  ([109, 112, 108, 115, 95, 116, 99], 3, 1, false, 5, [34887, 34888], ()),
  ([109, 112, 108, 115, 95, 98, 111, 115], 1, 1, false, 5, [34887, 34888], ()),
  ([112, 98, 98, 95, 105, 115, 105, 100], 24, 3, true, 5, [35047], ()),
  ([116, 117, 110, 110, 101, 108, 95, 105, 100], 64, 8, true, -1, [], ()),
  ([105, 112, 118, 54, 95, 101, 120, 116, 104, 100, 114], 9, 2, true, 5, [34525], ())]
def ir_r07_All : IR :=
(.seq
(.keep []
(.reg (⟨some 0, .mov (.c (.imm (.cons .str (.cons (.int .i64) (.cons (.int .i64) (.cons .bool (.cons (.int .i64) (.cons (.sl (.int .u64)) .nil)))))) [])), none⟩ ::
[])))
(.seq
(.keep []
(.reg (⟨some 1, .buildAll 6 [(0, 1, (.c (.str [105, 110, 95, 112, 111, 114, 116]))), (1, 1, (.c (.int .i64 32))), (2, 1, (.c (.int .i64 4))), (3, 1, (.c (.kb false))), (4, 1, (.c (.int .i64 (-1)))), (5, 1, (.c (.imm (.int .u64) [])))], none⟩ ::
⟨some 2, .buildAll 6 [(0, 1, (.c (.str [105, 110, 95, 112, 104, 121, 95, 112, 111, 114, 116]))), (1, 1, (.c (.int .i64 32))), (2, 1, (.c (.int .i64 4))), (3, 1, (.c (.kb false))), (4, 1, (.c (.int .i64 0))), (5, 1, (.c (.imm (.int .u64) [])))], none⟩ ::
⟨some 3, .buildAll 6 [(0, 1, (.c (.str [109, 101, 116, 97, 100, 97, 116, 97]))), (1, 1, (.c (.int .i64 64))), (2, 1, (.c (.int .i64 8))), (3, 1, (.c (.kb true))), (4, 1, (.c (.int .i64 (-1)))), (5, 1, (.c (.imm (.int .u64) [])))], none⟩ ::
⟨some 4, .buildAll 6 [(0, 1, (.c (.str [101, 116, 104, 95, 100, 115, 116]))), (1, 1, (.c (.int .i64 48))), (2, 1, (.c (.int .i64 6))), (3, 1, (.c (.kb true))), (4, 1, (.c (.int .i64 (-1)))), (5, 1, (.c (.imm (.int .u64) [])))], none⟩ ::
⟨some 5, .buildAll 6 [(0, 1, (.c (.str [101, 116, 104, 95, 115, 114, 99]))), (1, 1, (.c (.int .i64 48))), (2, 1, (.c (.int .i64 6))), (3, 1, (.c (.kb true))), (4, 1, (.c (.int .i64 (-1)))), (5, 1, (.c (.imm (.int .u64) [])))], none⟩ ::
⟨some 6, .buildAll 6 [(0, 1, (.c (.str [101, 116, 104, 95, 116, 121, 112, 101]))), (1, 1, (.c (.int .i64 16))), (2, 1, (.c (.int .i64 2))), (3, 1, (.c (.kb false))), (4, 1, (.c (.int .i64 (-1)))), (5, 1, (.c (.imm (.int .u64) [])))], none⟩ ::
⟨some 7, .buildAll 6 [(0, 1, (.c (.str [118, 108, 97, 110, 95, 118, 105, 100]))), (1, 1, (.c (.int .i64 13))), (2, 1, (.c (.int .i64 2))), (3, 1, (.c (.kb true))), (4, 1, (.c (.int .i64 (-1)))), (5, 1, (.c (.imm (.int .u64) [])))], none⟩ ::
⟨some 8, .buildAll 6 [(0, 1, (.c (.str [118, 108, 97, 110, 95, 112, 99, 112]))), (1, 1, (.c (.int .i64 3))), (2, 1, (.c (.int .i64 1))), (3, 1, (.c (.kb false))), (4, 1, (.c (.int .i64 6))), (5, 1, (.c (.imm (.int .u64) [])))], none⟩ ::
⟨some 9, .sliceAll (.int .u64) 2 [(0, 1, (.c (.int .u64 2048))), (1, 1, (.c (.int .u64 34525)))], none⟩ ::
⟨some 10, .buildAll 6 [(0, 1, (.c (.str [105, 112, 95, 100, 115, 99, 112]))), (1, 1, (.c (.int .i64 6))), (2, 1, (.c (.int .i64 1))), (3, 1, (.c (.kb false))), (4, 1, (.c (.int .i64 5))), (5, 1, (.t 9))], none⟩ ::
⟨some 11, .sliceAll (.int .u64) 2 [(0, 1, (.c (.int .u64 2048))), (1, 1, (.c (.int .u64 34525)))], none⟩ ::
⟨some 12, .buildAll 6 [(0, 1, (.c (.str [105, 112, 95, 101, 99, 110]))), (1, 1, (.c (.int .i64 2))), (2, 1, (.c (.int .i64 1))), (3, 1, (.c (.kb false))), (4, 1, (.c (.int .i64 5))), (5, 1, (.t 11))], none⟩ ::
⟨some 13, .sliceAll (.int .u64) 2 [(0, 1, (.c (.int .u64 2048))), (1, 1, (.c (.int .u64 34525)))], none⟩ ::
⟨some 14, .buildAll 6 [(0, 1, (.c (.str [105, 112, 95, 112, 114, 111, 116, 111]))), (1, 1, (.c (.int .i64 8))), (2, 1, (.c (.int .i64 1))), (3, 1, (.c (.kb false))), (4, 1, (.c (.int .i64 5))), (5, 1, (.t 13))], none⟩ ::
⟨some 15, .sliceAll (.int .u64) 1 [(0, 1, (.c (.int .u64 2048)))], none⟩ ::
⟨some 16, .buildAll 6 [(0, 1, (.c (.str [105, 112, 118, 52, 95, 115, 114, 99]))), (1, 1, (.c (.int .i64 32))), (2, 1, (.c (.int .i64 4))), (3, 1, (.c (.kb true))), (4, 1, (.c (.int .i64 5))), (5, 1, (.t 15))], none⟩ ::
⟨some 17, .sliceAll (.int .u64) 1 [(0, 1, (.c (.int .u64 2048)))], none⟩ ::
⟨some 18, .buildAll 6 [(0, 1, (.c (.str [105, 112, 118, 52, 95, 100, 115, 116]))), (1, 1, (.c (.int .i64 32))), (2, 1, (.c (.int .i64 4))), (3, 1, (.c (.kb true))), (4, 1, (.c (.int .i64 5))), (5, 1, (.t 17))], none⟩ ::
⟨some 19, .sliceAll (.int .u64) 1 [(0, 1, (.c (.int .u64 6)))], none⟩ ::
⟨some 20, .buildAll 6 [(0, 1, (.c (.str [116, 99, 112, 95, 115, 114, 99]))), (1, 1, (.c (.int .i64 16))), (2, 1, (.c (.int .i64 2))), (3, 1, (.c (.kb false))), (4, 1, (.c (.int .i64 10))), (5, 1, (.t 19))], none⟩ ::
⟨some 21, .sliceAll (.int .u64) 1 [(0, 1, (.c (.int .u64 6)))], none⟩ ::
⟨some 22, .buildAll 6 [(0, 1, (.c (.str [116, 99, 112, 95, 100, 115, 116]))), (1, 1, (.c (.int .i64 16))), (2, 1, (.c (.int .i64 2))), (3, 1, (.c (.kb false))), (4, 1, (.c (.int .i64 10))), (5, 1, (.t 21))], none⟩ ::
⟨some 23, .sliceAll (.int .u64) 1 [(0, 1, (.c (.int .u64 17)))], none⟩ ::
⟨some 24, .buildAll 6 [(0, 1, (.c (.str [117, 100, 112, 95, 115, 114, 99]))), (1, 1, (.c (.int .i64 16))), (2, 1, (.c (.int .i64 2))), (3, 1, (.c (.kb false))), (4, 1, (.c (.int .i64 10))), (5, 1, (.t 23))], none⟩ ::
⟨some 25, .sliceAll (.int .u64) 1 [(0, 1, (.c (.int .u64 17)))], none⟩ ::
⟨some 26, .buildAll 6 [(0, 1, (.c (.str [117, 100, 112, 95, 100, 115, 116]))), (1, 1, (.c (.int .i64 16))), (2, 1, (.c (.int .i64 2))), (3, 1, (.c (.kb false))), (4, 1, (.c (.int .i64 10))), (5, 1, (.t 25))], none⟩ ::
⟨some 27, .sliceAll (.int .u64) 1 [(0, 1, (.c (.int .u64 132)))], none⟩ ::
⟨some 28, .buildAll 6 [(0, 1, (.c (.str [115, 99, 116, 112, 95, 115, 114, 99]))), (1, 1, (.c (.int .i64 16))), (2, 1, (.c (.int .i64 2))), (3, 1, (.c (.kb false))), (4, 1, (.c (.int .i64 10))), (5, 1, (.t 27))], none⟩ ::
⟨some 29, .sliceAll (.int .u64) 1 [(0, 1, (.c (.int .u64 132)))], none⟩ ::
⟨some 30, .buildAll 6 [(0, 1, (.c (.str [115, 99, 116, 112, 95, 100, 115, 116]))), (1, 1, (.c (.int .i64 16))), (2, 1, (.c (.int .i64 2))), (3, 1, (.c (.kb false))), (4, 1, (.c (.int .i64 10))), (5, 1, (.t 29))], none⟩ ::
⟨some 31, .sliceAll (.int .u64) 1 [(0, 1, (.c (.int .u64 1)))], none⟩ ::
⟨some 32, .buildAll 6 [(0, 1, (.c (.str [105, 99, 109, 112, 118, 52, 95, 116, 121, 112, 101]))), (1, 1, (.c (.int .i64 8))), (2, 1, (.c (.int .i64 1))), (3, 1, (.c (.kb false))), (4, 1, (.c (.int .i64 10))), (5, 1, (.t 31))], none⟩ ::
⟨some 33, .sliceAll (.int .u64) 1 [(0, 1, (.c (.int .u64 1)))], none⟩ ::
⟨some 34, .buildAll 6 [(0, 1, (.c (.str [105, 99, 109, 112, 118, 52, 95, 99, 111, 100, 101]))), (1, 1, (.c (.int .i64 8))), (2, 1, (.c (.int .i64 1))), (3, 1, (.c (.kb false))), (4, 1, (.c (.int .i64 10))), (5, 1, (.t 33))], none⟩ ::
⟨some 35, .sliceAll (.int .u64) 1 [(0, 1, (.c (.int .u64 2054)))], none⟩ ::
⟨some 36, .buildAll 6 [(0, 1, (.c (.str [97, 114, 112, 95, 111, 112]))), (1, 1, (.c (.int .i64 16))), (2, 1, (.c (.int .i64 2))), (3, 1, (.c (.kb false))), (4, 1, (.c (.int .i64 5))), (5, 1, (.t 35))], none⟩ ::
⟨some 37, .sliceAll (.int .u64) 1 [(0, 1, (.c (.int .u64 2054)))], none⟩ ::
⟨some 38, .buildAll 6 [(0, 1, (.c (.str [97, 114, 112, 95, 115, 112, 97]))), (1, 1, (.c (.int .i64 32))), (2, 1, (.c (.int .i64 4))), (3, 1, (.c (.kb true))), (4, 1, (.c (.int .i64 5))), (5, 1, (.t 37))], none⟩ ::
⟨some 39, .sliceAll (.int .u64) 1 [(0, 1, (.c (.int .u64 2054)))], none⟩ ::
⟨some 40, .buildAll 6 [(0, 1, (.c (.str [97, 114, 112, 95, 116, 112, 97]))), (1, 1, (.c (.int .i64 32))), (2, 1, (.c (.int .i64 4))), (3, 1, (.c (.kb true))), (4, 1, (.c (.int .i64 5))), (5, 1, (.t 39))], none⟩ ::
⟨some 41, .sliceAll (.int .u64) 1 [(0, 1, (.c (.int .u64 2054)))], none⟩ ::
⟨some 42, .buildAll 6 [(0, 1, (.c (.str [97, 114, 112, 95, 115, 104, 97]))), (1, 1, (.c (.int .i64 48))), (2, 1, (.c (.int .i64 6))), (3, 1, (.c (.kb true))), (4, 1, (.c (.int .i64 5))), (5, 1, (.t 41))], none⟩ ::
⟨some 43, .sliceAll (.int .u64) 1 [(0, 1, (.c (.int .u64 2054)))], none⟩ ::
⟨some 44, .buildAll 6 [(0, 1, (.c (.str [97, 114, 112, 95, 116, 104, 97]))), (1, 1, (.c (.int .i64 48))), (2, 1, (.c (.int .i64 6))), (3, 1, (.c (.kb true))), (4, 1, (.c (.int .i64 5))), (5, 1, (.t 43))], none⟩ ::
⟨some 45, .sliceAll (.int .u64) 1 [(0, 1, (.c (.int .u64 34525)))], none⟩ ::
⟨some 46, .buildAll 6 [(0, 1, (.c (.str [105, 112, 118, 54, 95, 115, 114, 99]))), (1, 1, (.c (.int .i64 128))), (2, 1, (.c (.int .i64 16))), (3, 1, (.c (.kb true))), (4, 1, (.c (.int .i64 5))), (5, 1, (.t 45))], none⟩ ::
⟨some 47, .sliceAll (.int .u64) 1 [(0, 1, (.c (.int .u64 34525)))], none⟩ ::
⟨some 48, .buildAll 6 [(0, 1, (.c (.str [105, 112, 118, 54, 95, 100, 115, 116]))), (1, 1, (.c (.int .i64 128))), (2, 1, (.c (.int .i64 16))), (3, 1, (.c (.kb true))), (4, 1, (.c (.int .i64 5))), (5, 1, (.t 47))], none⟩ ::
⟨some 49, .sliceAll (.int .u64) 1 [(0, 1, (.c (.int .u64 34525)))], none⟩ ::
⟨some 50, .buildAll 6 [(0, 1, (.c (.str [105, 112, 118, 54, 95, 102, 108, 97, 98, 101, 108]))), (1, 1, (.c (.int .i64 20))), (2, 1, (.c (.int .i64 4))), (3, 1, (.c (.kb true))), (4, 1, (.c (.int .i64 5))), (5, 1, (.t 49))], none⟩ ::
⟨some 51, .sliceAll (.int .u64) 1 [(0, 1, (.c (.int .u64 58)))], none⟩ ::
⟨some 52, .buildAll 6 [(0, 1, (.c (.str [105, 99, 109, 112, 118, 54, 95, 116, 121, 112, 101]))), (1, 1, (.c (.int .i64 8))), (2, 1, (.c (.int .i64 1))), (3, 1, (.c (.kb false))), (4, 1, (.c (.int .i64 10))), (5, 1, (.t 51))], none⟩ ::
⟨some 53, .sliceAll (.int .u64) 1 [(0, 1, (.c (.int .u64 58)))], none⟩ ::
⟨some 54, .buildAll 6 [(0, 1, (.c (.str [105, 99, 109, 112, 118, 54, 95, 99, 111, 100, 101]))), (1, 1, (.c (.int .i64 8))), (2, 1, (.c (.int .i64 1))), (3, 1, (.c (.kb false))), (4, 1, (.c (.int .i64 10))), (5, 1, (.t 53))], none⟩ ::
⟨some 55, .sliceAll (.int .u64) 2 [(0, 1, (.c (.int .u64 135))), (1, 1, (.c (.int .u64 136)))], none⟩ ::
⟨some 56, .buildAll 6 [(0, 1, (.c (.str [105, 112, 118, 54, 95, 110, 100, 95, 116, 97, 114, 103, 101, 116]))), (1, 1, (.c (.int .i64 128))), (2, 1, (.c (.int .i64 16))), (3, 1, (.c (.kb false))), (4, 1, (.c (.int .i64 29))), (5, 1, (.t 55))], none⟩ ::
⟨some 57, .sliceAll (.int .u64) 1 [(0, 1, (.c (.int .u64 135)))], none⟩ ::
⟨some 58, .buildAll 6 [(0, 1, (.c (.str [105, 112, 118, 54, 95, 110, 100, 95, 115, 108, 108]))), (1, 1, (.c (.int .i64 48))), (2, 1, (.c (.int .i64 6))), (3, 1, (.c (.kb false))), (4, 1, (.c (.int .i64 29))), (5, 1, (.t 57))], none⟩ ::
⟨some 59, .sliceAll (.int .u64) 1 [(0, 1, (.c (.int .u64 136)))], none⟩ ::
⟨some 60, .buildAll 6 [(0, 1, (.c (.str [105, 112, 118, 54, 95, 110, 100, 95, 116, 108, 108]))), (1, 1, (.c (.int .i64 48))), (2, 1, (.c (.int .i64 6))), (3, 1, (.c (.kb false))), (4, 1, (.c (.int .i64 29))), (5, 1, (.t 59))], none⟩ ::
⟨some 61, .sliceAll (.int .u64) 2 [(0, 1, (.c (.int .u64 34887))), (1, 1, (.c (.int .u64 34888)))], none⟩ ::
⟨some 62, .buildAll 6 [(0, 1, (.c (.str [109, 112, 108, 115, 95, 108, 97, 98, 101, 108]))), (1, 1, (.c (.int .i64 20))), (2, 1, (.c (.int .i64 4))), (3, 1, (.c (.kb false))), (4, 1, (.c (.int .i64 5))), (5, 1, (.t 61))], none⟩ ::
⟨some 63, .sliceAll (.int .u64) 2 [(0, 1, (.c (.int .u64 34887))), (1, 1, (.c (.int .u64 34888)))], none⟩ ::
⟨some 64, .buildAll 6 [(0, 1, (.c (.str [109, 112, 108, 115, 95, 116, 99]))), (1, 1, (.c (.int .i64 3))), (2, 1, (.c (.int .i64 1))), (3, 1, (.c (.kb false))), (4, 1, (.c (.int .i64 5))), (5, 1, (.t 63))], none⟩ ::
⟨some 65, .sliceAll (.int .u64) 2 [(0, 1, (.c (.int .u64 34887))), (1, 1, (.c (.int .u64 34888)))], none⟩ ::
⟨some 66, .buildAll 6 [(0, 1, (.c (.str [109, 112, 108, 115, 95, 98, 111, 115]))), (1, 1, (.c (.int .i64 1))), (2, 1, (.c (.int .i64 1))), (3, 1, (.c (.kb false))), (4, 1, (.c (.int .i64 5))), (5, 1, (.t 65))], none⟩ ::
⟨some 67, .sliceAll (.int .u64) 1 [(0, 1, (.c (.int .u64 35047)))], none⟩ ::
⟨some 68, .buildAll 6 [(0, 1, (.c (.str [112, 98, 98, 95, 105, 115, 105, 100]))), (1, 1, (.c (.int .i64 24))), (2, 1, (.c (.int .i64 3))), (3, 1, (.c (.kb true))), (4, 1, (.c (.int .i64 5))), (5, 1, (.t 67))], none⟩ ::
⟨some 69, .buildAll 6 [(0, 1, (.c (.str [116, 117, 110, 110, 101, 108, 95, 105, 100]))), (1, 1, (.c (.int .i64 64))), (2, 1, (.c (.int .i64 8))), (3, 1, (.c (.kb true))), (4, 1, (.c (.int .i64 (-1)))), (5, 1, (.c (.imm (.int .u64) [])))], none⟩ ::
⟨some 70, .sliceAll (.int .u64) 1 [(0, 1, (.c (.int .u64 34525)))], none⟩ ::
⟨some 71, .buildAll 6 [(0, 1, (.c (.str [105, 112, 118, 54, 95, 101, 120, 116, 104, 100, 114]))), (1, 1, (.c (.int .i64 9))), (2, 1, (.c (.int .i64 2))), (3, 1, (.c (.kb true))), (4, 1, (.c (.int .i64 5))), (5, 1, (.t 70))], none⟩ ::
⟨some 72, .sliceAll (.cons .str (.cons (.int .i64) (.cons (.int .i64) (.cons .bool (.cons (.int .i64) (.cons (.sl (.int .u64)) .nil)))))) 40 [(0, 6, (.t 1)), (6, 6, (.t 2)), (12, 6, (.t 3)), (18, 6, (.t 4)), (24, 6, (.t 5)), (30, 6, (.t 6)), (36, 6, (.t 7)), (42, 6, (.t 8)), (48, 6, (.t 10)), (54, 6, (.t 12)), (60, 6, (.t 14)), (66, 6, (.t 16)), (72, 6, (.t 18)), (78, 6, (.t 20)), (84, 6, (.t 22)), (90, 6, (.t 24)), (96, 6, (.t 26)), (102, 6, (.t 28)), (108, 6, (.t 30)), (114, 6, (.t 32)), (120, 6, (.t 34)), (126, 6, (.t 36)), (132, 6, (.t 38)), (138, 6, (.t 40)), (144, 6, (.t 42)), (150, 6, (.t 44)), (156, 6, (.t 46)), (162, 6, (.t 48)), (168, 6, (.t 50)), (174, 6, (.t 52)), (180, 6, (.t 54)), (186, 6, (.t 56)), (192, 6, (.t 58)), (198, 6, (.t 60)), (204, 6, (.t 62)), (210, 6, (.t 64)), (216, 6, (.t 66)), (222, 6, (.t 68)), (228, 6, (.t 69)), (234, 6, (.t 71))], none⟩ ::
⟨some 0, .mov (.t 72), none⟩ ::
[])))
.ret))
def rd_r07_All : List RD := [.tmp 0 true (some (.cons .str (.cons (.int .i64) (.cons (.int .i64) (.cons .bool (.cons (.int .i64) (.cons (.sl (.int .u64)) .nil)))))))]
theorem ok_r07_All : fnOk Tryz.prog Tryz.f143 ir_r07_All rd_r07_All = true := by kernel_rfl
def S_r07_All : List AV → List Obj → Option (Prop × AV)
  | [], [] => some (True, .imm fieldT tab)
  | _, _ => none
theorem snd_r07_All : SoundS Tryz.prog 143 (RoF S_r07_All).sum := by
  refine ro_fn Tryz.func143 ok_r07_All (env_nil _) fun args objs p v e => ?_
  unfold S_r07_All at e
  split at e
  · cases e
    refine ⟨rfl, fun hw _ hp => ?_⟩
    repeat' (intro t ht; first | (cases t <;> first | (cases ht; done) | ((try simp only [Bool.not_eq_eq_eq_not, Bool.not_true, Bool.not_false, Bool.and_eq_true, Bool.and_eq_false_iff, decide_eq_true_eq, decide_eq_false_iff_not] at ht); (try simp only [Int.toNat_natCast, dflt_int] at ht))) | (refine ht ?_ ?_ <;> clear ht) | (refine ht.1 ?_ ?_ <;> clear ht) | (refine ht ?_; clear ht))
    exact ⟨rfl, rfl⟩
  · cases e
def tabG (n : Int) : fieldT.den := tab.getD n.toNat fieldT.dflt
def nameR (n : Int) : List Int := if fIs n then (tabG n).1 else []
def bitsR (n : Int) : Int := if fIs n then (tabG n).2.1 else 0
def sizeR (n : Int) : Int := if fIs n then (tabG n).2.2.1 else 0
def maskR (n : Int) : Bool := if fIs n then (tabG n).2.2.2.1 else false
def needR (n : Int) : Int := if fIs n then (tabG n).2.2.2.2.1 else 0
def valsR (n : Int) : List Int := if fIs n then (tabG n).2.2.2.2.2.1 else []
abbrev ofR (n : Int) : AV := .tup [.agg [.str (nameR n), .int .i64 (bitsR n), .int .i64 (sizeR n), .bool (maskR n), .int .i64 (needR n), .imm (.int .u64) (valsR n)], .bool (fIs n)]
theorem tabL : tab.length = 40 := rfl
def ir_r07_Of : IR :=
(.seq
(.keep [0]
(.reg (⟨some 2, .box [.str [], .int .i64 0, .int .i64 0, .kb false, .int .i64 0, .imm (.int .u64) []], none⟩ ::
⟨some 3, .mov (.c (.kb false)), none⟩ ::
[])))
(.seq
(.reg (⟨some 5, .call false (.f 143) [], none⟩ ::
⟨some 4, .mov (.t 5), none⟩ ::
[]))
(.seq
(.seq
(.keep [0, 2, 4]
(.reg (⟨some 6, .mov (.t 0), none⟩ ::
⟨some 7, .bin .lss (.t 6) (.c (.int .i64 0)), none⟩ ::
⟨some 8, .mov (.t 7), none⟩ ::
⟨some 9, .mov (.t 0), some (8, false)⟩ ::
⟨some 10, .mov (.t 4), some (8, false)⟩ ::
⟨some 11, .len (.t 10), some (8, false)⟩ ::
⟨some 12, .bin .geq (.t 9) (.t 11), some (8, false)⟩ ::
⟨some 13, .pick (.t 8) (.c (.kb true)) (.t 12), none⟩ ::
[])))
(.cond (.t 13)
(.seq
(.keep [2]
(.reg (⟨some 14, .build [.str [], .int .i64 0, .int .i64 0, .kb false, .int .i64 0, .imm (.int .u64) []] [], none⟩ ::
⟨none, .store 6 (.t 2) (.t 14), none⟩ ::
⟨some 3, .mov (.c (.kb false)), none⟩ ::
[])))
.ret)
.skip))
(.seq
(.keep [0, 2, 4]
(.reg (⟨some 15, .mov (.t 4), none⟩ ::
⟨some 16, .mov (.t 0), none⟩ ::
⟨some 17, .indexSl 6 (.t 15) (.t 16), none⟩ ::
⟨some 18, .load (some 6) (.t 17), none⟩ ::
⟨none, .store 6 (.t 2) (.t 18), none⟩ ::
⟨some 3, .mov (.c (.kb true)), none⟩ ::
[])))
.ret))))
def rd_r07_Of : List RD := [.cell 2 (some 6) true [], .tmp 3 true none]
theorem ok_r07_Of : fnOk Tryz.prog Tryz.f116 ir_r07_Of rd_r07_Of = true := by kernel_rfl
def S_r07_Of : List AV → List Obj → Option (Prop × AV)
  | [.int .i64 n], [] => some ((True, ofR n))
  | _, _ => none
theorem snd_r07_Of : SoundS Tryz.prog 116 (RoF S_r07_Of).sum := by
  refine ro_fn Tryz.func116 ok_r07_Of (env_cons (s := RoF S_r07_All) snd_r07_All (env_nil _)) fun args objs p v e => ?_
  unfold S_r07_Of at e
  split at e
  · rename_i n
    cases e
    refine ⟨rfl, fun hw ho hp => ?_⟩
    repeat' (intro t ht; first | (cases t <;> first | (cases ht; done) | ((try simp only [Bool.not_eq_eq_eq_not, Bool.not_true, Bool.not_false, Bool.and_eq_true, Bool.and_eq_false_iff, decide_eq_true_eq, decide_eq_false_iff_not] at ht); (try simp only [Int.toNat_natCast, dflt_int] at ht))) | (refine ht ?_ ?_ <;> clear ht) | (refine ht.1 ?_ ?_ <;> clear ht) | (refine ht ?_; clear ht))
    all_goals first
      | trivial
      | ((try simp only [Int.toNat_natCast, dflt_int, decide_eq_true_eq, decide_eq_false_iff_not, Bool.not_eq_eq_eq_not, Bool.not_true, Bool.not_false, Bool.and_eq_true, Bool.and_eq_false_iff, min_i64, max_i64, min_u64, max_u64, min_u32, max_u32, min_u16, max_u16, min_u8, max_u8] at *); rw [tabL] at *; omega)
      | (refine ⟨?_, rfl⟩
         first
           | (have hn : fIs n = true := fIs_t.2 (by (try simp only [Int.toNat_natCast, dflt_int, decide_eq_true_eq, decide_eq_false_iff_not, Bool.not_eq_eq_eq_not, Bool.not_true, Bool.not_false, Bool.and_eq_true, Bool.and_eq_false_iff, min_i64, max_i64, min_u64, max_u64, min_u32, max_u32, min_u16, max_u16, min_u8, max_u8] at *); rw [tabL] at *; omega)
              unfold ofR nameR bitsR sizeR maskR needR valsR; rw [hn]; rfl)
           | (have hn : fIs n = false := fIs_f.2 (by (try simp only [Int.toNat_natCast, dflt_int, decide_eq_true_eq, decide_eq_false_iff_not, Bool.not_eq_eq_eq_not, Bool.not_true, Bool.not_false, Bool.and_eq_true, Bool.and_eq_false_iff, min_i64, max_i64, min_u64, max_u64, min_u32, max_u32, min_u16, max_u16, min_u8, max_u8] at *); rw [tabL] at *; omega)
              unfold ofR nameR bitsR sizeR maskR needR valsR; rw [hn]; rfl)
           | (have hn : fIs n = false := fIs_f.2 (by (try simp only [Int.toNat_natCast, dflt_int, decide_eq_true_eq, decide_eq_false_iff_not, Bool.not_eq_eq_eq_not, Bool.not_true, Bool.not_false, Bool.and_eq_true, Bool.and_eq_false_iff, min_i64, max_i64, min_u64, max_u64, min_u32, max_u32, min_u16, max_u16, min_u8, max_u8] at *); omega)
              unfold ofR nameR bitsR sizeR maskR needR valsR; rw [hn]; rfl))
  · cases e
def spareF (s : Int) : List Int → Bool
  | [] => true
  | b :: r => if b.fdiv (2 ^ (min (8 - (if 8 < s then 8 else s)).toNat 8)) = 0 then spareF (s - (if 8 < s then 8 else s)) r else false
theorem spareF_step {s : Int} {v : List Int} {i : Nat} (h : i < v.length) : spareF s (v.drop i) = if (v.getD i 0).fdiv (2 ^ (min (8 - (if 8 < s then 8 else s)).toNat 8)) = 0 then spareF (s - (if 8 < s then 8 else s)) (v.drop (i + 1)) else false := by
  rw [List.drop_eq_getElem_cons h, List.getD_eq_getElem?_getD, List.getElem?_eq_getElem h]
  rfl
theorem spareF_end {s : Int} {v : List Int} {i : Nat} (h : v.length ≤ i) : spareF s (v.drop i) = true := by
  rw [List.drop_of_length_le h]; rfl
def fitsF (n : Int) (v : List Int) : Bool := if (0 ≤ n ∧ n < 40) ∧ (v.length : Int) = sizeF n then spareF (8 * sizeF n - bitsL.getD n.toNat 0) v else false
theorem size_le : ∀ k < 40, 1 ≤ sizeF (k : Nat) ∧ sizeF (k : Nat) ≤ 16 ∧ 0 ≤ 8 * sizeF (k : Nat) - bitsL.getD k 0 ∧ 8 * sizeF (k : Nat) - bitsL.getD k 0 ≤ 12 := by decide
def ir_field_Fits : IR :=
(.seq
(.keep [0, 1]
(.reg (⟨some 4, .mov (.c (.kb false)), none⟩ ::
[])))
(.seq
(.seq
(.keep [0, 1]
(.reg (⟨some 9, .mov (.t 0), none⟩ ::
⟨some 10, .call false (.f 124) [(.t 9)], none⟩ ::
⟨some 11, .un .not (.t 10), none⟩ ::
⟨some 12, .mov (.t 11), none⟩ ::
⟨some 13, .mov (.t 1), some (12, false)⟩ ::
⟨some 14, .len (.t 13), some (12, false)⟩ ::
⟨some 15, .mov (.t 0), some (12, false)⟩ ::
⟨some 16, .call false (.f 153) [(.t 15)], some (12, false)⟩ ::
⟨some 17, .bin .neq (.t 14) (.t 16), some (12, false)⟩ ::
⟨some 18, .pick (.t 12) (.c (.kb true)) (.t 17), none⟩ ::
[])))
(.cond (.t 18)
(.seq
(.keep []
(.reg (⟨some 4, .mov (.c (.kb false)), none⟩ ::
[])))
.ret)
.skip))
(.seq
(.keep [0, 1]
(.reg (⟨some 19, .mov (.t 0), none⟩ ::
⟨some 20, .call false (.f 153) [(.t 19)], none⟩ ::
⟨some 21, .bin .mul (.c (.int .i64 8)) (.t 20), none⟩ ::
⟨some 22, .mov (.t 0), none⟩ ::
⟨some 23, .call false (.f 152) [(.t 22)], none⟩ ::
⟨some 24, .bin .sub (.t 21) (.t 23), none⟩ ::
⟨some 5, .mov (.t 24), none⟩ ::
[])))
(.seq
(.seq
(.keep [1, 5]
(.reg (⟨some 25, .mov (.t 1), none⟩ ::
⟨some 26, .len (.t 25), none⟩ ::
⟨some 27, .mov (.c (.int .i64 0)), none⟩ ::
[])))
(.block 0
(.loop
(.seq
(.keep [5, 25, 26, 27]
(.reg (⟨some 28, .bin .lss (.t 27) (.t 26), none⟩ ::
[])))
(.seq
(.cond (.t 28)
.skip
(.exit 0))
(.seq
(.block 1
(.seq
(.reg (⟨some 29, .indexSl 1 (.t 25) (.t 27), none⟩ ::
⟨some 30, .load none (.t 29), none⟩ ::
⟨some 7, .mov (.t 30), none⟩ ::
[]))
(.seq
(.reg (⟨some 31, .mov (.t 5), none⟩ ::
⟨some 32, .minmax false (.t 31) (.c (.int .i64 8)), none⟩ ::
⟨some 8, .mov (.t 32), none⟩ ::
[]))
(.seq
(.seq
(.keep [5, 7, 8, 25, 26, 27]
(.reg (⟨some 33, .mov (.t 7), none⟩ ::
⟨some 34, .mov (.t 8), none⟩ ::
⟨some 35, .bin .sub (.c (.int .i64 8)) (.t 34), none⟩ ::
⟨some 36, .bin .shr (.t 33) (.t 35), none⟩ ::
⟨some 37, .bin .neq (.t 36) (.c (.int .u8 0)), none⟩ ::
[])))
(.cond (.t 37)
(.seq
(.reg (⟨some 4, .mov (.c (.kb false)), none⟩ ::
[]))
.ret)
.skip))
(.keep [5, 8, 25, 26, 27]
(.reg (⟨some 38, .mov (.t 5), none⟩ ::
⟨some 39, .mov (.t 8), none⟩ ::
⟨some 40, .bin .sub (.t 38) (.t 39), none⟩ ::
⟨some 5, .mov (.t 40), none⟩ ::
[])))))))
(.keep [5, 25, 26, 27]
(.reg (⟨some 41, .bin .add (.t 27) (.c (.int .i64 1)), none⟩ ::
⟨some 27, .mov (.t 41), none⟩ ::
[])))))))))
(.seq
(.keep []
(.reg (⟨some 4, .mov (.c (.kb true)), none⟩ ::
[])))
.ret)))))
def rd_field_Fits : List RD := [.tmp 4 true none]
theorem ok_field_Fits : fnOk Tryz.prog Tryz.f134 ir_field_Fits rd_field_Fits = true := by kernel_rfl
def S_field_Fits : List AV → List Obj → Option (Prop × AV)
  | [.int .i64 n, .imm (.int .u8) v], [] => some (True, .bool (fitsF n v))
  | _, _ => none
theorem snd_field_Fits : SoundS Tryz.prog 134 (RoF S_field_Fits).sum := by
  refine ro_fn Tryz.func134 ok_field_Fits (env_cons (s := RoF S_field_is) snd_field_is (env_cons (s := RoF S_field_size) snd_field_size (env_cons (s := RoF S_field_bits) snd_field_bits (env_nil _)))) fun args objs p v e => ?_
  unfold S_field_Fits at e
  split at e
  · rename_i n v
    cases e
    refine ⟨rfl, fun hw _ hp => ?_⟩
    have hl : v.length ≤ maxLen := (hw (.imm (.int .u8) v) (by simp)).2
    unfold maxLen at hl
    repeat' (intro t ht; first | (cases t <;> first | (cases ht; done) | ((try simp only [Bool.not_eq_eq_eq_not, Bool.not_true, Bool.not_false, Bool.and_eq_true, Bool.and_eq_false_iff, decide_eq_true_eq, decide_eq_false_iff_not] at ht); (try simp only [Int.toNat_natCast, dflt_int] at ht))) | (refine ht ?_ ?_ <;> clear ht) | (refine ht.1 ?_ ?_ <;> clear ht) | (refine ht ?_; clear ht))
    all_goals first
      | trivial
      | (intro r h1 h2; (try simp only [fIs_t, fIs_f, Int.toNat_natCast, dflt_int, decide_eq_true_eq, decide_eq_false_iff_not, Bool.not_eq_eq_eq_not, Bool.not_true, Bool.not_false, Bool.and_eq_true, Bool.and_eq_false_iff, min_i64, max_i64, min_u64, max_u64, min_u32, max_u32, min_u16, max_u16, min_u8, max_u8] at *)
         have hsz := size_le n.toNat (by omega)
         rw [Int.toNat_of_nonneg (by omega)] at hsz
         refine h2 ⟨[25, 26, 27, 5], Nat × Int, (fun p => p.1 ≤ v.length ∧ 0 ≤ p.2 ∧ p.2 ≤ 12 ∧ spareF (8 * sizeF n - bitsL.getD n.toNat 0) v = spareF p.2 (v.drop p.1)),
           fun a => [.imm (.int .u8) v, .int .i64 v.length, .int .i64 a.1, .int .i64 a.2], fun _ => [], fun a => v.length - a.1, ⟨(0, 8 * sizeF n - bitsL.getD n.toNat 0), ⟨Nat.zero_le _, hsz.2.2.1, hsz.2.2.2, rfl⟩, rfl, rfl⟩, ?_⟩
         clear h1 h2)
      | ((try simp only [fIs_t, fIs_f, Int.toNat_natCast, dflt_int, decide_eq_true_eq, decide_eq_false_iff_not, Bool.not_eq_eq_eq_not, Bool.not_true, Bool.not_false, Bool.and_eq_true, Bool.and_eq_false_iff, min_i64, max_i64, min_u64, max_u64, min_u32, max_u32, min_u16, max_u16, min_u8, max_u8] at *); omega)
      | ((try simp only [fIs_t, fIs_f, Int.toNat_natCast, dflt_int, decide_eq_true_eq, decide_eq_false_iff_not, Bool.not_eq_eq_eq_not, Bool.not_true, Bool.not_false, Bool.and_eq_true, Bool.and_eq_false_iff, min_i64, max_i64, min_u64, max_u64, min_u32, max_u32, min_u16, max_u16, min_u8, max_u8] at *); have hsz := size_le n.toNat (by omega)
         rw [Int.toNat_of_nonneg (by omega)] at hsz
         have hb := bits_le n.toNat (by omega)
         omega)
      | (refine ⟨?_, rfl⟩; (try simp only [fIs_t, fIs_f, Int.toNat_natCast, dflt_int, decide_eq_true_eq, decide_eq_false_iff_not, Bool.not_eq_eq_eq_not, Bool.not_true, Bool.not_false, Bool.and_eq_true, Bool.and_eq_false_iff, min_i64, max_i64, min_u64, max_u64, min_u32, max_u32, min_u16, max_u16, min_u8, max_u8] at *); unfold fitsF; rw [if_neg (by omega)])
    rintro ⟨i, s⟩ ⟨hi, hs0, hs1, he⟩
    dsimp only at hi hs0 hs1 he
    repeat' (intro t ht; first | (cases t <;> first | (cases ht; done) | ((try simp only [Bool.not_eq_eq_eq_not, Bool.not_true, Bool.not_false, Bool.and_eq_true, Bool.and_eq_false_iff, decide_eq_true_eq, decide_eq_false_iff_not] at ht); (try simp only [Int.toNat_natCast, dflt_int] at ht))) | (refine ht ?_ ?_ <;> clear ht) | (refine ht.1 ?_ ?_ <;> clear ht) | (refine ht ?_; clear ht))
    all_goals have hk : 0 ≤ (if (8 : Int) < s then 8 else s) ∧ (if (8 : Int) < s then 8 else s) ≤ 8 ∧ (if (8 : Int) < s then 8 else s) ≤ s := by split <;> omega
    all_goals have hv : (0 ≤ n ∧ n < 40) ∧ (v.length : Int) = sizeF n := ⟨by omega, by omega⟩
    all_goals first
      | (refine ⟨?_, rfl⟩; unfold fitsF; rw [if_pos hv, he]; (try simp only [fIs_t, fIs_f, Int.toNat_natCast, dflt_int, decide_eq_true_eq, decide_eq_false_iff_not, Bool.not_eq_eq_eq_not, Bool.not_true, Bool.not_false, Bool.and_eq_true, Bool.and_eq_false_iff, min_i64, max_i64, min_u64, max_u64, min_u32, max_u32, min_u16, max_u16, min_u8, max_u8] at *); rw [spareF_end (by omega)]; done)
      | (refine ⟨?_, rfl⟩; unfold fitsF; rw [if_pos hv, he]; (try simp only [fIs_t, fIs_f, Int.toNat_natCast, dflt_int, decide_eq_true_eq, decide_eq_false_iff_not, Bool.not_eq_eq_eq_not, Bool.not_true, Bool.not_false, Bool.and_eq_true, Bool.and_eq_false_iff, min_i64, max_i64, min_u64, max_u64, min_u32, max_u32, min_u16, max_u16, min_u8, max_u8] at *); rw [spareF_step (by omega), if_neg (by assumption)]; done)
      | ((try simp only [fIs_t, fIs_f, Int.toNat_natCast, dflt_int, decide_eq_true_eq, decide_eq_false_iff_not, Bool.not_eq_eq_eq_not, Bool.not_true, Bool.not_false, Bool.and_eq_true, Bool.and_eq_false_iff, min_i64, max_i64, min_u64, max_u64, min_u32, max_u32, min_u16, max_u16, min_u8, max_u8] at *); omega)
      | ((try simp only [fIs_t, fIs_f, Int.toNat_natCast, dflt_int, decide_eq_true_eq, decide_eq_false_iff_not, Bool.not_eq_eq_eq_not, Bool.not_true, Bool.not_false, Bool.and_eq_true, Bool.and_eq_false_iff, min_i64, max_i64, min_u64, max_u64, min_u32, max_u32, min_u16, max_u16, min_u8, max_u8] at *); generalize (if (8 : Int) < s then 8 else s) = k at *; omega)
      | (have hlt : i < v.length := by ((try simp only [fIs_t, fIs_f, Int.toNat_natCast, dflt_int, decide_eq_true_eq, decide_eq_false_iff_not, Bool.not_eq_eq_eq_not, Bool.not_true, Bool.not_false, Bool.and_eq_true, Bool.and_eq_false_iff, min_i64, max_i64, min_u64, max_u64, min_u32, max_u32, min_u16, max_u16, min_u8, max_u8] at *); omega)
         refine ⟨(i + 1, s - (if (8 : Int) < s then 8 else s)), ⟨hlt, by dsimp only; omega, by dsimp only; omega, by (try simp only [fIs_t, fIs_f, Int.toNat_natCast, dflt_int, decide_eq_true_eq, decide_eq_false_iff_not, Bool.not_eq_eq_eq_not, Bool.not_true, Bool.not_false, Bool.and_eq_true, Bool.and_eq_false_iff, min_i64, max_i64, min_u64, max_u64, min_u32, max_u32, min_u16, max_u16, min_u8, max_u8] at *); rw [he, spareF_step hlt, if_pos (by assumption)]⟩, by dsimp only; omega, rfl, rfl⟩)
  · cases e
end Go.Eng
