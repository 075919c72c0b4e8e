/- Contracts of functions of the given program, told by plain Lean functions. No condition. -/
import Derived.Test.YtoejpijobbcooaaGreatDoorProg
import Derived.Test.YtoejpijobbcooaaGreatDoorEArg
import Derived.KernelRfl
import Derived.Test.YtoejpijobbcooaaGreatDoorOI
import Derived.Test.YtoejpijobbcooaaGreatDoorN1
namespace Go.Eng
open Go.Proofs
set_option linter.unusedVariables false
set_option linter.unusedSimpArgs false
set_option maxRecDepth 100000
set_option maxHeartbeats 1000000
def rowT (t : Int) : List Int := if t = 0 then [4, 2, -6] else if t = 22 ∨ t = 21 ∨ t = 65535 then [4] else if t = 15 ∨ t = 23 then [1, -3] else if t = 17 ∨ t = 19 ∨ t = 26 ∨ t = 20 then [2, -2] else if t = 11 ∨ t = 12 ∨ t = 16 ∨ t = 18 ∨ t = 24 ∨ t = 27 then [-4] else []
def rowK (t : Int) : Bool := decide (t = 0 ∨ (t = 22 ∨ t = 21 ∨ t = 65535) ∨ (t = 15 ∨ t = 23) ∨ (t = 17 ∨ t = 19 ∨ t = 26 ∨ t = 20) ∨ (t = 11 ∨ t = 12 ∨ t = 16 ∨ t = 18 ∨ t = 24 ∨ t = 27))
theorem rowT_no {t : Int} (h : ¬ (t = 0 ∨ (t = 22 ∨ t = 21 ∨ t = 65535) ∨ (t = 15 ∨ t = 23) ∨ (t = 17 ∨ t = 19 ∨ t = 26 ∨ t = 20) ∨ (t = 11 ∨ t = 12 ∨ t = 16 ∨ t = 18 ∨ t = 24 ∨ t = 27))) : rowT t = [] ∧ rowK t = false := by
  refine ⟨?_, decide_eq_false h⟩
  unfold rowT
  rw [if_neg (by omega), if_neg (by omega), if_neg (by omega), if_neg (by omega), if_neg (by omega)]
theorem rowK_t {t : Int} (h : rowK t = true) : t = 0 ∨ (t = 22 ∨ t = 21 ∨ t = 65535) ∨ (t = 15 ∨ t = 23) ∨ (t = 17 ∨ t = 19 ∨ t = 26 ∨ t = 20) ∨ (t = 11 ∨ t = 12 ∨ t = 16 ∨ t = 18 ∨ t = 24 ∨ t = 27) := of_decide_eq_true h
theorem rowT_of (t : Int) : rowT t = [4, 2, -6] ∨ rowT t = [4] ∨ rowT t = [1, -3] ∨ rowT t = [2, -2] ∨ rowT t = [-4] ∨ rowT t = [] := by
  unfold rowT
  repeat' split
  all_goals simp
theorem cnt_le (t : Int) : 0 ≤ countW (rowT t) ∧ countW (rowT t) ≤ 2 := by
  rcases rowT_of t with h | h | h | h | h | h <;> rw [h] <;> decide
theorem siz_le (t : Int) : 0 ≤ sizeW (rowT t) ∧ sizeW (rowT t) ≤ 12 := by
  rcases rowT_of t with h | h | h | h | h | h <;> rw [h] <;> decide
def askF (t n : Int) : Int := if t = 0 then (if n = 0 then 517 else 0) else if t = 22 then (if 4294967040 < n then 522 else 0) else if t = 17 then (if n ≠ 33024 ∧ n ≠ 34984 then 518 else 0) else if t = 19 then (if n ≠ 34887 ∧ n ≠ 34888 then 518 else 0) else if t = 26 then (if n ≠ 35047 then 518 else 0) else 0
def ir_action_rows : IR :=
(.seq
(.keep [0]
(.reg (⟨some 2, .mov (.c (.imm (.int .i64) [])), none⟩ ::
⟨some 3, .mov (.c (.kb false)), none⟩ ::
[])))
(.seq
(.seq
(.reg (⟨some 4, .mov (.t 0), none⟩ ::
[]))
(.block 0
(.seq
(.block 7
(.block 6
(.seq
(.block 5
(.block 4
(.seq
(.block 3
(.seq
(.block 2
(.seq
(.block 1
(.seq
(.seq
(.seq
(.reg (⟨some 6, .bin .eql (.t 4) (.c (.int .i64 0)), none⟩ ::
⟨some 5, .mov (.t 6), none⟩ ::
[]))
(.cond (.t 5)
(.exit 1)
.skip))
(.seq
(.seq
(.seq
(.reg (⟨some 8, .bin .eql (.t 4) (.c (.int .i64 22)), none⟩ ::
⟨some 7, .mov (.t 8), none⟩ ::
[]))
(.cond (.t 7)
.skip
(.seq
(.keep [4]
(.reg (⟨some 9, .bin .eql (.t 4) (.c (.int .i64 21)), none⟩ ::
⟨some 7, .mov (.t 9), none⟩ ::
[])))
(.cond (.t 7)
.skip
(.reg (⟨some 10, .bin .eql (.t 4) (.c (.int .i64 65535)), none⟩ ::
⟨some 7, .mov (.t 10), none⟩ ::
[]))))))
(.cond (.t 7)
(.exit 2)
.skip))
(.seq
(.seq
(.seq
(.keep [4]
(.reg (⟨some 12, .bin .eql (.t 4) (.c (.int .i64 15)), none⟩ ::
⟨some 11, .mov (.t 12), none⟩ ::
[])))
(.cond (.t 11)
.skip
(.reg (⟨some 13, .bin .eql (.t 4) (.c (.int .i64 23)), none⟩ ::
⟨some 11, .mov (.t 13), none⟩ ::
[]))))
(.cond (.t 11)
(.exit 3)
.skip))
(.seq
(.seq
(.seq
(.reg (⟨some 15, .bin .eql (.t 4) (.c (.int .i64 17)), none⟩ ::
⟨some 14, .mov (.t 15), none⟩ ::
[]))
(.cond (.t 14)
.skip
(.seq
(.keep [4]
(.reg (⟨some 16, .bin .eql (.t 4) (.c (.int .i64 19)), none⟩ ::
⟨some 14, .mov (.t 16), none⟩ ::
[])))
(.cond (.t 14)
.skip
(.reg (⟨some 17, .bin .eql (.t 4) (.c (.int .i64 26)), none⟩ ::
⟨some 14, .mov (.t 17), none⟩ ::
[]))))))
(.cond (.t 14)
(.exit 4)
.skip))
(.seq
(.seq
(.keep [4]
(.reg (⟨some 19, .bin .eql (.t 4) (.c (.int .i64 20)), none⟩ ::
⟨some 18, .mov (.t 19), none⟩ ::
[])))
(.cond (.t 18)
(.exit 5)
.skip))
(.seq
(.seq
(.seq
(.reg (⟨some 21, .bin .eql (.t 4) (.c (.int .i64 11)), none⟩ ::
⟨some 20, .mov (.t 21), none⟩ ::
[]))
(.cond (.t 20)
.skip
(.seq
(.reg (⟨some 22, .bin .eql (.t 4) (.c (.int .i64 12)), none⟩ ::
⟨some 20, .mov (.t 22), none⟩ ::
[]))
(.cond (.t 20)
.skip
(.keep [4]
(.reg (⟨some 23, .bin .eql (.t 4) (.c (.int .i64 16)), none⟩ ::
⟨some 20, .mov (.t 23), none⟩ ::
[])))))))
(.cond (.t 20)
(.exit 6)
.skip))
(.seq
(.seq
(.keep [4]
(.reg (⟨some 25, .bin .eql (.t 4) (.c (.int .i64 18)), none⟩ ::
⟨some 24, .mov (.t 25), none⟩ ::
[])))
(.cond (.t 24)
.skip
(.seq
(.reg (⟨some 26, .bin .eql (.t 4) (.c (.int .i64 24)), none⟩ ::
⟨some 24, .mov (.t 26), none⟩ ::
[]))
(.cond (.t 24)
.skip
(.reg (⟨some 27, .bin .eql (.t 4) (.c (.int .i64 27)), none⟩ ::
⟨some 24, .mov (.t 27), none⟩ ::
[]))))))
(.cond (.t 24)
(.exit 7)
.skip))))))))
(.exit 0)))
(.seq
(.seq
(.keep []
(.reg (⟨some 28, .sliceAll (.int .i64) 3 [(0, 1, (.c (.int .i64 4))), (1, 1, (.c (.int .i64 2))), (2, 1, (.c (.int .i64 (-6))))], none⟩ ::
⟨some 2, .mov (.t 28), none⟩ ::
⟨some 3, .mov (.c (.kb true)), none⟩ ::
[])))
.ret)
(.exit 0))))
(.seq
(.seq
(.keep []
(.reg (⟨some 29, .sliceAll (.int .i64) 1 [(0, 1, (.c (.int .i64 4)))], none⟩ ::
⟨some 2, .mov (.t 29), none⟩ ::
⟨some 3, .mov (.c (.kb true)), none⟩ ::
[])))
.ret)
(.exit 0))))
(.seq
(.seq
(.keep []
(.reg (⟨some 30, .sliceAll (.int .i64) 2 [(0, 1, (.c (.int .i64 1))), (1, 1, (.c (.int .i64 (-3))))], none⟩ ::
⟨some 2, .mov (.t 30), none⟩ ::
⟨some 3, .mov (.c (.kb true)), none⟩ ::
[])))
.ret)
(.exit 0)))))
(.seq
(.seq
(.keep []
(.reg (⟨some 31, .sliceAll (.int .i64) 2 [(0, 1, (.c (.int .i64 2))), (1, 1, (.c (.int .i64 (-2))))], none⟩ ::
⟨some 2, .mov (.t 31), none⟩ ::
⟨some 3, .mov (.c (.kb true)), none⟩ ::
[])))
.ret)
(.exit 0)))))
(.seq
(.seq
(.keep []
(.reg (⟨some 32, .sliceAll (.int .i64) 1 [(0, 1, (.c (.int .i64 (-4))))], none⟩ ::
⟨some 2, .mov (.t 32), none⟩ ::
⟨some 3, .mov (.c (.kb true)), none⟩ ::
[])))
.ret)
(.exit 0)))))
(.seq
(.keep []
(.reg (⟨some 2, .mov (.c (.imm (.int .i64) [])), none⟩ ::
⟨some 3, .mov (.c (.kb false)), none⟩ ::
[])))
.ret)))
def rd_action_rows : List RD := [.tmp 2 true (some (.int .i64)), .tmp 3 true none]
theorem ok_action_rows : fnOk Tryz.prog Tryz.f41 ir_action_rows rd_action_rows = true := by kernel_rfl
def S_action_rows : List AV → List Obj → Option (Prop × AV)
  | [.int .i64 q], [] => some ((True, .tup [.imm (.int .i64) (rowT q), .bool (rowK q)]))
  | _, _ => none
theorem snd_action_rows : SoundS Tryz.prog 41 (RoF S_action_rows).sum := by
  refine ro_fn Tryz.func41 ok_action_rows (env_nil _) fun args objs p v e => ?_
  unfold S_action_rows at e
  split at e
  · rename_i q
    cases e
    refine ⟨rfl, fun hw ho hp => ?_⟩
    clear hw ho
    repeat' (intro t ht; first | (cases t <;> first | (cases ht; done) | ((try simp only [Bool.not_eq_eq_eq_not, Bool.not_true, Bool.not_false, Bool.and_eq_true, Bool.and_eq_false_iff, decide_eq_true_eq, decide_eq_false_iff_not] at ht); (try simp only [Int.toNat_natCast, dflt_int] at ht); (try (exfalso; first | contradiction | omega)))) | (refine ht ?_ ?_ <;> clear ht) | (refine ht.1 ?_ ?_ <;> clear ht) | (refine ht ?_; clear ht))
    all_goals first
      | exact True.intro
      | (have h := rowT_no (t := q) (by omega)
         rw [h.1, h.2]; exact ⟨rfl, rfl⟩)
      | (subst_vars; exact ⟨rfl, rfl⟩)
      | (have h : q = 0 ∨ (q = 22 ∨ q = 21 ∨ q = 65535) ∨ (q = 15 ∨ q = 23) ∨ (q = 17 ∨ q = 19 ∨ q = 26 ∨ q = 20) ∨ (q = 11 ∨ q = 12 ∨ q = 16 ∨ q = 18 ∨ q = 24 ∨ q = 27) := by omega
         rcases h with rfl | (rfl | rfl | rfl) | (rfl | rfl) | (rfl | rfl | rfl | rfl) | (rfl | rfl | rfl | rfl | rfl | rfl) <;> first | (exfalso; omega) | exact ⟨rfl, rfl⟩)
      | trace_state
  · cases e
def ir_action_asked : IR :=
(.seq
(.keep [0, 1]
(.reg (⟨some 4, .mov (.c (.int .i64 0)), none⟩ ::
[])))
(.seq
(.block 0
(.seq
(.keep [0, 1]
(.reg (⟨some 6, .mov (.t 0), none⟩ ::
⟨some 7, .bin .eql (.t 6) (.c (.int .i64 0)), none⟩ ::
⟨some 8, .mov (.t 7), none⟩ ::
⟨some 9, .mov (.t 1), some (8, true)⟩ ::
⟨some 10, .bin .eql (.t 9) (.c (.int .u64 0)), some (8, true)⟩ ::
⟨some 11, .pick (.t 8) (.t 10) (.c (.kb false)), none⟩ ::
⟨some 5, .mov (.t 11), none⟩ ::
[])))
(.cond (.t 5)
(.seq
(.keep []
(.reg (⟨some 4, .mov (.c (.int .i64 517)), none⟩ ::
[])))
.ret)
(.seq
(.keep [0, 1]
(.reg (⟨some 13, .mov (.t 0), none⟩ ::
⟨some 14, .bin .eql (.t 13) (.c (.int .i64 22)), none⟩ ::
⟨some 15, .mov (.t 14), none⟩ ::
⟨some 16, .mov (.t 1), some (15, true)⟩ ::
⟨some 17, .bin .gtr (.t 16) (.c (.int .u64 4294967040)), some (15, true)⟩ ::
⟨some 18, .pick (.t 15) (.t 17) (.c (.kb false)), none⟩ ::
⟨some 12, .mov (.t 18), none⟩ ::
[])))
(.cond (.t 12)
(.seq
(.keep []
(.reg (⟨some 4, .mov (.c (.int .i64 522)), none⟩ ::
[])))
.ret)
(.seq
(.keep [0, 1]
(.reg (⟨some 20, .mov (.t 0), none⟩ ::
⟨some 21, .bin .eql (.t 20) (.c (.int .i64 17)), none⟩ ::
⟨some 22, .mov (.t 21), none⟩ ::
⟨some 23, .mov (.t 1), some (22, true)⟩ ::
⟨some 24, .bin .neq (.t 23) (.c (.int .u64 33024)), some (22, true)⟩ ::
⟨some 25, .pick (.t 22) (.t 24) (.c (.kb false)), none⟩ ::
⟨some 26, .mov (.t 25), none⟩ ::
⟨some 27, .mov (.t 1), some (26, true)⟩ ::
⟨some 28, .bin .neq (.t 27) (.c (.int .u64 34984)), some (26, true)⟩ ::
⟨some 29, .pick (.t 26) (.t 28) (.c (.kb false)), none⟩ ::
⟨some 19, .mov (.t 29), none⟩ ::
[])))
(.cond (.t 19)
(.seq
(.keep []
(.reg (⟨some 4, .mov (.c (.int .i64 518)), none⟩ ::
[])))
.ret)
(.seq
(.keep [0, 1]
(.reg (⟨some 31, .mov (.t 0), none⟩ ::
⟨some 32, .bin .eql (.t 31) (.c (.int .i64 19)), none⟩ ::
⟨some 33, .mov (.t 32), none⟩ ::
⟨some 34, .mov (.t 1), some (33, true)⟩ ::
⟨some 35, .bin .neq (.t 34) (.c (.int .u64 34887)), some (33, true)⟩ ::
⟨some 36, .pick (.t 33) (.t 35) (.c (.kb false)), none⟩ ::
⟨some 37, .mov (.t 36), none⟩ ::
⟨some 38, .mov (.t 1), some (37, true)⟩ ::
⟨some 39, .bin .neq (.t 38) (.c (.int .u64 34888)), some (37, true)⟩ ::
⟨some 40, .pick (.t 37) (.t 39) (.c (.kb false)), none⟩ ::
⟨some 30, .mov (.t 40), none⟩ ::
[])))
(.cond (.t 30)
(.seq
(.keep []
(.reg (⟨some 4, .mov (.c (.int .i64 518)), none⟩ ::
[])))
.ret)
(.seq
(.keep [0, 1]
(.reg (⟨some 42, .mov (.t 0), none⟩ ::
⟨some 43, .bin .eql (.t 42) (.c (.int .i64 26)), none⟩ ::
⟨some 44, .mov (.t 43), none⟩ ::
⟨some 45, .mov (.t 1), some (44, true)⟩ ::
⟨some 46, .bin .neq (.t 45) (.c (.int .u64 35047)), some (44, true)⟩ ::
⟨some 47, .pick (.t 44) (.t 46) (.c (.kb false)), none⟩ ::
⟨some 41, .mov (.t 47), none⟩ ::
[])))
(.cond (.t 41)
(.seq
(.keep []
(.reg (⟨some 4, .mov (.c (.int .i64 518)), none⟩ ::
[])))
.ret)
.skip)))))))))))
(.seq
(.keep []
(.reg (⟨some 4, .mov (.c (.int .i64 0)), none⟩ ::
[])))
.ret)))
def rd_action_asked : List RD := [.tmp 4 true none]
theorem ok_action_asked : fnOk Tryz.prog Tryz.f47 ir_action_asked rd_action_asked = true := by kernel_rfl
def S_action_asked : List AV → List Obj → Option (Prop × AV)
  | [.int .i64 q, .int .u64 n], [] => some ((True, .int .i64 (askF q n)))
  | _, _ => none
theorem snd_action_asked : SoundS Tryz.prog 47 (RoF S_action_asked).sum := by
  refine ro_fn Tryz.func47 ok_action_asked (env_nil _) fun args objs p v e => ?_
  unfold S_action_asked at e
  split at e
  · rename_i q n
    cases e
    refine ⟨rfl, fun hw ho hp => ?_⟩
    clear hw ho
    repeat' (intro t ht; first | (cases t <;> first | (cases ht; done) | ((try simp only [Bool.not_eq_eq_eq_not, Bool.not_true, Bool.not_false, Bool.and_eq_true, Bool.and_eq_false_iff, decide_eq_true_eq, decide_eq_false_iff_not] at ht); (try simp only [Int.toNat_natCast, dflt_int] at ht); (try (exfalso; first | contradiction | omega)))) | (refine ht ?_ ?_ <;> clear ht) | (refine ht.1 ?_ ?_ <;> clear ht) | (refine ht ?_; clear ht))
    all_goals first
      | exact True.intro
      | (refine ⟨congrArg (AV.int .i64) ?_, rfl⟩; unfold askF; repeat' split
         all_goals first | rfl | omega)
      | trace_state
  · cases e
def ir_action_settable : IR :=
(.seq
(.keep [0]
(.reg (⟨some 1, .boxv (.t 0), none⟩ ::
⟨some 2, .mov (.c (.kb false)), none⟩ ::
[])))
(.seq
(.keep [1]
(.reg (⟨some 3, .fieldAddr 0 (.t 1), none⟩ ::
⟨some 4, .load none (.t 3), none⟩ ::
⟨some 5, .bin .eql (.t 4) (.c (.int .i64 32768)), none⟩ ::
⟨some 6, .mov (.t 5), none⟩ ::
⟨some 7, .fieldAddr 2 (.t 1), some (6, true)⟩ ::
⟨some 8, .load none (.t 7), some (6, true)⟩ ::
⟨some 9, .un .not (.t 8), some (6, true)⟩ ::
⟨some 10, .pick (.t 6) (.t 9) (.c (.kb false)), none⟩ ::
⟨some 11, .mov (.t 10), none⟩ ::
⟨some 12, .fieldAddr 1 (.t 1), some (11, true)⟩ ::
⟨some 13, .load none (.t 12), some (11, true)⟩ ::
⟨some 14, .call false (.f 96) [(.t 13)], some (11, true)⟩ ::
⟨some 15, .pick (.t 11) (.t 14) (.c (.kb false)), none⟩ ::
⟨some 16, .mov (.t 15), none⟩ ::
⟨some 17, .load (some 6) (.t 1), some (16, true)⟩ ::
⟨some 18, .call false (.f 70) [(.t 17)], some (16, true)⟩ ::
⟨some 19, .pick (.t 16) (.t 18) (.c (.kb false)), none⟩ ::
⟨some 2, .mov (.t 19), none⟩ ::
[])))
.ret))
def rd_action_settable : List RD := [.tmp 2 true none]
theorem ok_action_settable : fnOk Tryz.prog Tryz.f45 ir_action_settable rd_action_settable = true := by kernel_rfl
def S_action_settable : List AV → List Obj → Option (Prop × AV)
  | [.agg [.int .i64 c, .int .i64 f, .bool h, .int .u64 x, .imm (.int .u8) v, .imm (.int .u8) m]], [] => some ((v.length ≤ 1000000 ∧ m.length ≤ 1000000, .bool (decide (c = 32768) && !h && settF f && rightO c f h x v m)))
  | _, _ => none
theorem snd_action_settable : SoundS Tryz.prog 45 (RoF S_action_settable).sum := by
  refine ro_fn Tryz.func45 ok_action_settable (env_cons (s := RoF S_field_Settable) snd_field_Settable (env_cons (s := RoF S_oxm_Right) snd_oxm_Right (env_nil _))) fun args objs p v e => ?_
  unfold S_action_settable at e
  split at e
  · rename_i c f h x v m
    cases e
    refine ⟨rfl, fun hw ho hp => ?_⟩
    change List Int at v
    change List Int at m
    clear hw ho
    cases h
    all_goals repeat' (intro t ht; first | (cases t <;> first | (cases ht; done) | ((try simp only [Bool.not_eq_eq_eq_not, Bool.not_true, Bool.not_false, Bool.and_eq_true, Bool.and_eq_false_iff, decide_eq_true_eq, decide_eq_false_iff_not] at ht); (try simp only [Int.toNat_natCast, dflt_int] at ht); (try (exfalso; first | contradiction | omega)))) | (refine ht ?_ ?_ <;> clear ht) | (refine ht.1 ?_ ?_ <;> clear ht) | (refine ht ?_; clear ht))
    all_goals first
      | exact True.intro
      | exact hp
      | (refine ⟨congrArg AV.bool ?_, rfl⟩; simp_all; done)
      | trace_state
  · cases e
def ir_action_bare : IR :=
(.seq
(.keep [0]
(.reg (⟨some 1, .boxv (.t 0), none⟩ ::
⟨some 2, .mov (.c (.kb false)), none⟩ ::
[])))
(.seq
(.reg (⟨some 3, .load (some 6) (.t 1), none⟩ ::
⟨some 4, .build [.int .i64 0, .int .i64 0, .kb false, .int .u64 0, .imm (.int .u8) [], .imm (.int .u8) []] [], none⟩ ::
⟨some 5, .call false (.f 86) [(.t 3), (.t 4)], none⟩ ::
⟨some 2, .mov (.t 5), none⟩ ::
[]))
.ret))
def rd_action_bare : List RD := [.tmp 2 true none]
theorem ok_action_bare : fnOk Tryz.prog Tryz.f46 ir_action_bare rd_action_bare = true := by kernel_rfl
def S_action_bare : List AV → List Obj → Option (Prop × AV)
  | [.agg [.int .i64 c, .int .i64 f, .bool h, .int .u64 x, .imm (.int .u8) v, .imm (.int .u8) m]], [] => some ((True, .bool (sameO c f h x v m 0 0 false 0 [] [])))
  | _, _ => none
theorem snd_action_bare : SoundS Tryz.prog 46 (RoF S_action_bare).sum := by
  refine ro_fn Tryz.func46 ok_action_bare (env_cons (s := RoF S_oxm_Same) snd_oxm_Same (env_nil _)) fun args objs p v e => ?_
  unfold S_action_bare at e
  split at e
  · rename_i c f h x v m
    cases e
    refine ⟨rfl, fun hw ho hp => ?_⟩
    change List Int at v
    change List Int at m
    clear hw ho
    repeat' (intro t ht; first | (cases t <;> first | (cases ht; done) | ((try simp only [Bool.not_eq_eq_eq_not, Bool.not_true, Bool.not_false, Bool.and_eq_true, Bool.and_eq_false_iff, decide_eq_true_eq, decide_eq_false_iff_not] at ht); (try simp only [Int.toNat_natCast, dflt_int] at ht); (try (exfalso; first | contradiction | omega)))) | (refine ht ?_ ?_ <;> clear ht) | (refine ht.1 ?_ ?_ <;> clear ht) | (refine ht ?_; clear ht))
    all_goals first
      | exact True.intro
      | exact ⟨rfl, rfl⟩
      | trace_state
  · cases e
def numsA (t a b : Int) : List Int := [a, b].take (countW (rowT t)).toNat
def rightA (R : Bool) (t a b c f : Int) (h : Bool) (x : Int) (v m d : List Int) : Bool :=
  if t = 25 then decide (a = 0) && decide (b = 0) && decide (d.length = 0) && (decide (c = 32768) && !h && settF f && R)
  else rowK t && sameO c f h x v m 0 0 false 0 [] [] && decide (askF t a = 0) && putK (rowT t) (numsA t a b) && (decide (2 ≤ countW (rowT t)) || decide (b = 0)) && (decide (1 ≤ countW (rowT t)) || decide (a = 0)) && (if t = 65535 then decide ((d.length : Int).tmod 8 = 0) && decide ((d.length : Int) ≤ 65520) else decide (d.length = 0))
def ir_action_Right : IR :=
(.seq
(.keep [0]
(.reg (⟨some 1, .boxv (.t 0), none⟩ ::
⟨some 2, .mov (.c (.kb false)), none⟩ ::
[])))
(.seq
(.seq
(.reg (⟨some 8, .fieldAddr 0 (.t 1), none⟩ ::
⟨some 9, .load none (.t 8), none⟩ ::
⟨some 10, .bin .eql (.t 9) (.c (.int .i64 25)), none⟩ ::
[]))
(.cond (.t 10)
(.seq
(.keep [1]
(.reg (⟨some 11, .fieldAddr 1 (.t 1), none⟩ ::
⟨some 12, .load none (.t 11), none⟩ ::
⟨some 13, .bin .eql (.t 12) (.c (.int .u64 0)), none⟩ ::
⟨some 14, .mov (.t 13), none⟩ ::
⟨some 15, .fieldAddr 2 (.t 1), some (14, true)⟩ ::
⟨some 16, .load none (.t 15), some (14, true)⟩ ::
⟨some 17, .bin .eql (.t 16) (.c (.int .u64 0)), some (14, true)⟩ ::
⟨some 18, .pick (.t 14) (.t 17) (.c (.kb false)), none⟩ ::
⟨some 19, .mov (.t 18), none⟩ ::
⟨some 20, .fieldAddr 9 (.t 1), some (19, true)⟩ ::
⟨some 21, .load none (.t 20), some (19, true)⟩ ::
⟨some 22, .len (.t 21), some (19, true)⟩ ::
⟨some 23, .bin .eql (.t 22) (.c (.int .i64 0)), some (19, true)⟩ ::
⟨some 24, .pick (.t 19) (.t 23) (.c (.kb false)), none⟩ ::
⟨some 25, .mov (.t 24), none⟩ ::
⟨some 26, .fieldAddr 3 (.t 1), some (25, true)⟩ ::
⟨some 27, .load (some 6) (.t 26), some (25, true)⟩ ::
⟨some 28, .call false (.f 45) [(.t 27)], some (25, true)⟩ ::
⟨some 29, .pick (.t 25) (.t 28) (.c (.kb false)), none⟩ ::
⟨some 2, .mov (.t 29), none⟩ ::
[])))
.ret)
.skip))
(.seq
(.keep [1]
(.reg (⟨some 31, .fieldAddr 0 (.t 1), none⟩ ::
⟨some 32, .load none (.t 31), none⟩ ::
⟨some 33, .call false (.f 41) [(.t 32)], none⟩ ::
⟨some 30, .mov (.t 33), none⟩ ::
⟨some 34, .extract (.t 30) 0, none⟩ ::
⟨some 35, .extract (.t 30) 1, none⟩ ::
⟨some 3, .mov (.t 34), none⟩ ::
⟨some 4, .mov (.t 35), none⟩ ::
[])))
(.seq
(.seq
(.keep [1, 3, 4]
(.reg (⟨some 36, .mov (.t 4), none⟩ ::
⟨some 37, .un .not (.t 36), none⟩ ::
⟨some 38, .mov (.t 37), none⟩ ::
⟨some 39, .fieldAddr 3 (.t 1), some (38, false)⟩ ::
⟨some 40, .load (some 6) (.t 39), some (38, false)⟩ ::
⟨some 41, .call false (.f 46) [(.t 40)], some (38, false)⟩ ::
⟨some 42, .un .not (.t 41), some (38, false)⟩ ::
⟨some 43, .pick (.t 38) (.c (.kb true)) (.t 42), none⟩ ::
⟨some 44, .mov (.t 43), none⟩ ::
⟨some 45, .fieldAddr 0 (.t 1), some (44, false)⟩ ::
⟨some 46, .load none (.t 45), some (44, false)⟩ ::
⟨some 47, .fieldAddr 1 (.t 1), some (44, false)⟩ ::
⟨some 48, .load none (.t 47), some (44, false)⟩ ::
⟨some 49, .call false (.f 47) [(.t 46), (.t 48)], some (44, false)⟩ ::
⟨some 50, .bin .neq (.t 49) (.c (.int .i64 0)), some (44, false)⟩ ::
⟨some 51, .pick (.t 44) (.c (.kb true)) (.t 50), none⟩ ::
[])))
(.cond (.t 51)
(.seq
(.keep []
(.reg (⟨some 2, .mov (.c (.kb false)), none⟩ ::
[])))
.ret)
.skip))
(.seq
(.keep [1, 3]
(.reg (⟨some 52, .mov (.t 3), none⟩ ::
⟨some 53, .call false (.f 42) [(.t 52)], none⟩ ::
⟨some 5, .mov (.t 53), none⟩ ::
[])))
(.seq
(.keep [1, 3, 5]
(.reg (⟨some 55, .mov (.t 3), none⟩ ::
⟨some 56, .fieldAddr 1 (.t 1), none⟩ ::
⟨some 57, .load none (.t 56), none⟩ ::
⟨some 58, .fieldAddr 2 (.t 1), none⟩ ::
⟨some 59, .load none (.t 58), none⟩ ::
⟨some 60, .sliceAll (.int .u64) 2 [(0, 1, (.t 57)), (1, 1, (.t 59))], none⟩ ::
⟨some 61, .mov (.t 5), none⟩ ::
⟨some 62, .slice 1 (.t 60) none (some (.t 61)) none, none⟩ ::
⟨some 63, .call false (.f 48) [(.t 55), (.t 62)], none⟩ ::
⟨some 54, .mov (.t 63), none⟩ ::
⟨some 64, .extract (.t 54) 0, none⟩ ::
⟨some 65, .extract (.t 54) 1, none⟩ ::
⟨some 6, .mov (.t 64), none⟩ ::
⟨some 7, .mov (.t 65), none⟩ ::
[])))
(.seq
(.seq
(.keep [1, 5, 7]
(.reg (⟨some 66, .mov (.t 7), none⟩ ::
⟨some 67, .un .not (.t 66), none⟩ ::
⟨some 68, .mov (.t 67), none⟩ ::
⟨some 69, .mov (.t 5), some (68, false)⟩ ::
⟨some 70, .bin .lss (.t 69) (.c (.int .i64 2)), some (68, false)⟩ ::
⟨some 71, .mov (.t 70), some (68, false)⟩ ::
⟨some 72, .fieldAddr 2 (.t 1), some (71, true)⟩ ::
⟨some 73, .load none (.t 72), some (71, true)⟩ ::
⟨some 74, .bin .neq (.t 73) (.c (.int .u64 0)), some (71, true)⟩ ::
⟨some 75, .pick (.t 71) (.t 74) (.c (.kb false)), some (68, false)⟩ ::
⟨some 76, .pick (.t 68) (.c (.kb true)) (.t 75), none⟩ ::
⟨some 77, .mov (.t 76), none⟩ ::
⟨some 78, .mov (.t 5), some (77, false)⟩ ::
⟨some 79, .bin .lss (.t 78) (.c (.int .i64 1)), some (77, false)⟩ ::
⟨some 80, .mov (.t 79), some (77, false)⟩ ::
⟨some 81, .fieldAddr 1 (.t 1), some (80, true)⟩ ::
⟨some 82, .load none (.t 81), some (80, true)⟩ ::
⟨some 83, .bin .neq (.t 82) (.c (.int .u64 0)), some (80, true)⟩ ::
⟨some 84, .pick (.t 80) (.t 83) (.c (.kb false)), some (77, false)⟩ ::
⟨some 85, .pick (.t 77) (.c (.kb true)) (.t 84), none⟩ ::
[])))
(.cond (.t 85)
(.seq
(.keep []
(.reg (⟨some 2, .mov (.c (.kb false)), none⟩ ::
[])))
.ret)
.skip))
(.seq
(.seq
(.keep [1]
(.reg (⟨some 86, .fieldAddr 0 (.t 1), none⟩ ::
⟨some 87, .load none (.t 86), none⟩ ::
⟨some 88, .bin .neq (.t 87) (.c (.int .i64 65535)), none⟩ ::
[])))
(.cond (.t 88)
(.seq
(.keep [1]
(.reg (⟨some 89, .fieldAddr 9 (.t 1), none⟩ ::
⟨some 90, .load none (.t 89), none⟩ ::
⟨some 91, .len (.t 90), none⟩ ::
⟨some 92, .bin .eql (.t 91) (.c (.int .i64 0)), none⟩ ::
⟨some 2, .mov (.t 92), none⟩ ::
[])))
.ret)
.skip))
(.seq
(.keep [1]
(.reg (⟨some 93, .fieldAddr 9 (.t 1), none⟩ ::
⟨some 94, .load none (.t 93), none⟩ ::
⟨some 95, .len (.t 94), none⟩ ::
⟨some 96, .bin .rem (.t 95) (.c (.int .i64 8)), none⟩ ::
⟨some 97, .bin .eql (.t 96) (.c (.int .i64 0)), none⟩ ::
⟨some 98, .mov (.t 97), none⟩ ::
⟨some 99, .fieldAddr 9 (.t 1), some (98, true)⟩ ::
⟨some 100, .load none (.t 99), some (98, true)⟩ ::
⟨some 101, .len (.t 100), some (98, true)⟩ ::
⟨some 102, .bin .leq (.t 101) (.c (.int .i64 65520)), some (98, true)⟩ ::
⟨some 103, .pick (.t 98) (.t 102) (.c (.kb false)), none⟩ ::
⟨some 2, .mov (.t 103), none⟩ ::
[])))
.ret)))))))))
def rd_action_Right : List RD := [.tmp 2 true none]
theorem ok_action_Right : fnOk Tryz.prog Tryz.f12 ir_action_Right rd_action_Right = true := by kernel_rfl
def S_action_Right : List AV → List Obj → Option (Prop × AV)
  | [.agg [.int .i64 q, .int .u64 a, .int .u64 b, .int .i64 c, .int .i64 f, .bool h, .int .u64 x, .imm (.int .u8) v, .imm (.int .u8) m, .imm (.int .u8) d]], [] => some ((v.length ≤ 1000000 ∧ m.length ≤ 1000000, .bool (rightA (rightO c f h x v m) q a b c f h x v m d)))
  | _, _ => none
theorem snd_action_Right : SoundS Tryz.prog 12 (RoF S_action_Right).sum := by
  refine ro_fn Tryz.func12 ok_action_Right (env_cons (s := RoF S_action_settable) snd_action_settable (env_cons (s := RoF S_action_rows) snd_action_rows (env_cons (s := RoF S_action_bare) snd_action_bare (env_cons (s := RoF S_action_asked) snd_action_asked (env_cons (s := RoF S_row_Count) snd_row_Count (env_cons (s := RoF S_row_Put) snd_row_Put (env_nil _))))))) fun args objs p v e => ?_
  unfold S_action_Right at e
  split at e
  · rename_i q a b c f h x v m d
    cases e
    refine ⟨rfl, fun hw ho hp => ?_⟩
    change List Int at v
    change List Int at m
    change List Int at d
    have hdl : d.length ≤ maxLen := (hw _ (List.mem_cons_self ..) (.imm (.int .u8) d) (by simp)).2
    unfold maxLen at hdl
    clear hw ho
    have hcn := cnt_le q
    by_cases h25 : q = 25
    · subst h25
      repeat' (intro t ht; first | (cases t <;> first | (cases ht; done) | ((try simp only [Bool.not_eq_eq_eq_not, Bool.not_true, Bool.not_false, Bool.and_eq_true, Bool.and_eq_false_iff, decide_eq_true_eq, decide_eq_false_iff_not] at ht); (try simp only [Int.toNat_natCast, dflt_int] at ht); (try (exfalso; first | contradiction | omega)))) | (refine ht ?_ ?_ <;> clear ht) | (refine ht.1 ?_ ?_ <;> clear ht) | (refine ht ?_; clear ht))
      all_goals first
        | exact True.intro
        | exact hp
        | ((try simp only [Int.toNat_natCast, dflt_int, decide_eq_true_eq, decide_eq_false_iff_not, Bool.not_eq_eq_eq_not, Bool.not_true, Bool.not_false, Bool.and_eq_true, Bool.and_eq_false_iff, min_i64, max_i64, min_u64, max_u64, min_u32, max_u32, min_u16, max_u16, min_u8, max_u8] at *); omega)
        | (refine ⟨congrArg AV.bool ?_, rfl⟩; unfold rightA; rw [if_pos rfl]; simp_all; done)
        | trace_state
    · repeat' (intro t ht; first | (cases t <;> first | (cases ht; done) | ((try simp only [Bool.not_eq_eq_eq_not, Bool.not_true, Bool.not_false, Bool.and_eq_true, Bool.and_eq_false_iff, decide_eq_true_eq, decide_eq_false_iff_not] at ht); (try simp only [Int.toNat_natCast, dflt_int] at ht); (try (exfalso; first | contradiction | omega)))) | (refine ht ?_ ?_ <;> clear ht) | (refine ht.1 ?_ ?_ <;> clear ht) | (refine ht ?_; clear ht))
      all_goals first
        | exact True.intro
        | exact hp
        | ((try simp only [Int.toNat_natCast, dflt_int, decide_eq_true_eq, decide_eq_false_iff_not, Bool.not_eq_eq_eq_not, Bool.not_true, Bool.not_false, Bool.and_eq_true, Bool.and_eq_false_iff, min_i64, max_i64, min_u64, max_u64, min_u32, max_u32, min_u16, max_u16, min_u8, max_u8] at *); omega)
        | (refine ⟨congrArg AV.bool ?_, rfl⟩; unfold rightA numsA; rw [if_neg h25]; simp_all; done)
        | (refine ⟨congrArg AV.bool ?_, rfl⟩; unfold rightA numsA; rw [if_neg h25]; simp_all; omega)
        | trace_state
  · cases e
def sizeA (R : Bool) (S : Int) (t a b c f : Int) (h : Bool) (x : Int) (v m d : List Int) : Int := if rightA R t a b c f h x v m d = true then (if t = 25 then (4 + S + 8 - 1).tdiv 8 * 8 else 4 + sizeW (rowT t) + d.length) else 0
theorem right_len2 {R : Bool} {t a b c f : Int} {h : Bool} {x : Int} {v m d : List Int} (hr : rightA R t a b c f h x v m d = true) : d.length ≤ 65520 := by
  unfold rightA at hr
  split at hr
  · simp only [Bool.and_eq_true, decide_eq_true_eq] at hr; omega
  · simp only [Bool.and_eq_true] at hr
    have := hr.2
    split at this
    · simp only [Bool.and_eq_true, decide_eq_true_eq] at this; omega
    · simp only [decide_eq_true_eq] at this; omega
theorem sizeO_le {c f : Int} {h : Bool} {x : Int} {v m : List Int} (hv : v.length ≤ 1000000) (hm : m.length ≤ 1000000) : 0 ≤ sizeO c f h x v m ∧ sizeO c f h x v m ≤ 3000000 := by
  unfold sizeO restO; repeat' split
  all_goals omega
def ir_action_Size : IR :=
(.seq
(.keep [0]
(.reg (⟨some 1, .boxv (.t 0), none⟩ ::
⟨some 2, .mov (.c (.int .i64 0)), none⟩ ::
[])))
(.seq
(.seq
(.reg (⟨some 5, .load (some 10) (.t 1), none⟩ ::
⟨some 6, .call false (.f 12) [(.t 5)], none⟩ ::
⟨some 7, .un .not (.t 6), none⟩ ::
[]))
(.cond (.t 7)
(.seq
(.reg (⟨some 2, .mov (.c (.int .i64 0)), none⟩ ::
[]))
.ret)
.skip))
(.seq
(.seq
(.keep [1]
(.reg (⟨some 8, .fieldAddr 0 (.t 1), none⟩ ::
⟨some 9, .load none (.t 8), none⟩ ::
⟨some 10, .bin .eql (.t 9) (.c (.int .i64 25)), none⟩ ::
[])))
(.cond (.t 10)
(.seq
(.keep [1]
(.reg (⟨some 11, .fieldAddr 3 (.t 1), none⟩ ::
⟨some 12, .load (some 6) (.t 11), none⟩ ::
⟨some 13, .call false (.f 49) [(.t 12)], none⟩ ::
⟨some 14, .bin .add (.c (.int .i64 4)) (.t 13), none⟩ ::
⟨some 15, .bin .add (.t 14) (.c (.int .i64 8)), none⟩ ::
⟨some 16, .bin .sub (.t 15) (.c (.int .i64 1)), none⟩ ::
⟨some 17, .bin .quo (.t 16) (.c (.int .i64 8)), none⟩ ::
⟨some 18, .bin .mul (.t 17) (.c (.int .i64 8)), none⟩ ::
⟨some 2, .mov (.t 18), none⟩ ::
[])))
.ret)
.skip))
(.seq
(.keep [1]
(.reg (⟨some 20, .fieldAddr 0 (.t 1), none⟩ ::
⟨some 21, .load none (.t 20), none⟩ ::
⟨some 22, .call false (.f 41) [(.t 21)], none⟩ ::
⟨some 19, .mov (.t 22), none⟩ ::
⟨some 23, .extract (.t 19) 0, none⟩ ::
⟨some 24, .extract (.t 19) 1, none⟩ ::
⟨some 3, .mov (.t 23), none⟩ ::
⟨some 4, .mov (.t 24), none⟩ ::
[])))
(.seq
(.keep [1, 3]
(.regD ((⟨some 25, .mov (.t 3), none⟩, []) ::
(⟨some 26, .call false (.f 50) [(.t 25)], none⟩, []) ::
(⟨some 27, .bin .add (.c (.int .i64 4)) (.t 26), none⟩, []) ::
(⟨some 28, .fieldAddr 9 (.t 1), none⟩, [0, 0, 0]) ::
(⟨some 29, .load none (.t 28), none⟩, [1, 0, 0]) ::
(⟨some 30, .len (.t 29), none⟩, [2, 0, 0]) ::
(⟨some 31, .bin .add (.t 27) (.t 30), none⟩, []) ::
(⟨some 2, .mov (.t 31), none⟩, []) ::
[])))
.ret)))))
def rd_action_Size : List RD := [.tmp 2 true none]
theorem ok_action_Size : fnOk Tryz.prog Tryz.f13 ir_action_Size rd_action_Size = true := by kernel_rfl
def S_action_Size : List AV → List Obj → Option (Prop × AV)
  | [.agg [.int .i64 q, .int .u64 a, .int .u64 b, .int .i64 c, .int .i64 f, .bool h, .int .u64 x, .imm (.int .u8) v, .imm (.int .u8) m, .imm (.int .u8) d]], [] => some ((v.length ≤ 1000000 ∧ m.length ≤ 1000000, .int .i64 (sizeA (rightO c f h x v m) (sizeO c f h x v m) q a b c f h x v m d)))
  | _, _ => none
theorem snd_action_Size : SoundS Tryz.prog 13 (RoF S_action_Size).sum := by
  refine ro_fn Tryz.func13 ok_action_Size (env_cons (s := RoF S_action_Right) snd_action_Right (env_cons (s := RoF S_oxm_Size) snd_oxm_Size (env_cons (s := RoF S_action_rows) snd_action_rows (env_cons (s := RoF S_row_Size) snd_row_Size (env_nil _))))) fun args objs p v e => ?_
  unfold S_action_Size at e
  split at e
  · rename_i q a b c f h x v m d
    cases e
    refine ⟨rfl, fun hw ho hp => ?_⟩
    change List Int at v
    change List Int at m
    change List Int at d
    clear hw ho
    have hs := sizeO_le (c := c) (f := f) (h := h) (x := x) hp.1 hp.2
    have hz := siz_le q
    have htd : (4 + sizeO c f h x v m + 8 - 1).tdiv 8 = (4 + sizeO c f h x v m + 8 - 1) / 8 := Int.tdiv_eq_ediv_of_nonneg (by omega)
    cases hr : rightA (rightO c f h x v m) q a b c f h x v m d with
    | false =>
      repeat' (intro t ht; first | (cases t <;> first | (cases ht; done) | ((try simp only [Bool.not_eq_eq_eq_not, Bool.not_true, Bool.not_false, Bool.and_eq_true, Bool.and_eq_false_iff, decide_eq_true_eq, decide_eq_false_iff_not] at ht); (try simp only [Int.toNat_natCast, dflt_int] at ht); (try (exfalso; first | contradiction | omega)))) | (refine ht ?_ ?_ <;> clear ht) | (refine ht.1 ?_ ?_ <;> clear ht) | (refine ht ?_; clear ht))
      all_goals first
        | exact True.intro
        | exact hp
        | (exfalso; simp_all; done)
        | (refine ⟨?_, rfl⟩; unfold sizeA; rw [hr]; rfl)
        | trace_state
    | true =>
      have hl := right_len2 hr
      repeat' (intro t ht; first | (cases t <;> first | (cases ht; done) | ((try simp only [Bool.not_eq_eq_eq_not, Bool.not_true, Bool.not_false, Bool.and_eq_true, Bool.and_eq_false_iff, decide_eq_true_eq, decide_eq_false_iff_not] at ht); (try simp only [Int.toNat_natCast, dflt_int] at ht); (try (exfalso; first | contradiction | omega)))) | (refine ht ?_ ?_ <;> clear ht) | (refine ht.1 ?_ ?_ <;> clear ht) | (refine ht ?_; clear ht))
      all_goals first
        | exact True.intro
        | exact hp
        | (exfalso; simp_all; done)
        | ((try simp only [Int.toNat_natCast, dflt_int, decide_eq_true_eq, decide_eq_false_iff_not, Bool.not_eq_eq_eq_not, Bool.not_true, Bool.not_false, Bool.and_eq_true, Bool.and_eq_false_iff, min_i64, max_i64, min_u64, max_u64, min_u32, max_u32, min_u16, max_u16, min_u8, max_u8] at *); omega)
        | (rw [htd]; (try simp only [Int.toNat_natCast, dflt_int, decide_eq_true_eq, decide_eq_false_iff_not, Bool.not_eq_eq_eq_not, Bool.not_true, Bool.not_false, Bool.and_eq_true, Bool.and_eq_false_iff, min_i64, max_i64, min_u64, max_u64, min_u32, max_u32, min_u16, max_u16, min_u8, max_u8] at *); omega)
        | (refine ⟨congrArg (AV.int .i64) ?_, rfl⟩; unfold sizeA; rw [if_pos hr, if_pos (by assumption)]; done)
        | (refine ⟨congrArg (AV.int .i64) ?_, rfl⟩; unfold sizeA; rw [if_pos hr, if_neg (by assumption)]; done)
        | trace_state
  · cases e
def ir_buffer_Buffer_Len : IR :=
(.seq
(.keep [0]
(.reg (⟨some 2, .mov (.c (.int .i64 0)), none⟩ ::
[])))
(.seq
(.seq
(.reg (⟨some 3, .mov (.t 0), none⟩ ::
⟨some 4, .call false (.f 63) [(.t 3)], none⟩ ::
[]))
(.cond (.t 4)
(.seq
(.reg (⟨some 2, .mov (.c (.int .i64 0)), none⟩ ::
[]))
.ret)
.skip))
(.seq
(.keep [0]
(.reg (⟨some 5, .mov (.t 0), none⟩ ::
⟨some 6, .nilck (.t 5), none⟩ ::
⟨some 7, .fieldAddr 0 (.t 6), none⟩ ::
⟨some 8, .load none (.t 7), none⟩ ::
⟨some 9, .len (.t 8), none⟩ ::
⟨some 2, .mov (.t 9), none⟩ ::
[])))
.ret)))
def rd_buffer_Buffer_Len : List RD := [.tmp 2 true none]
theorem ok_buffer_Buffer_Len : fnOk Tryz.prog Tryz.f89 ir_buffer_Buffer_Len rd_buffer_Buffer_Len = true := by kernel_rfl
def S_buffer_Buffer_Len : List AV → List Obj → Option (Prop × AV)
  | [.ptr 0 0], [.box [.own 1, .int .i64 room, .mapv 2, .int .i64 e], .row false (.int .u8) l, .map sq (.int .i64) (.int .i64) h] => some ((True, .int .i64 l.length))
  | _, _ => none
theorem snd_buffer_Buffer_Len : SoundS Tryz.prog 89 (RoF S_buffer_Buffer_Len).sum := by
  refine ro_fn Tryz.func89 ok_buffer_Buffer_Len (env_cons (s := RoF S_buffer_Buffer_none) snd_buffer_Buffer_none (env_nil _)) fun args objs p v e => ?_
  unfold S_buffer_Buffer_Len at e
  split at e
  · rename_i room e l sq h
    cases e
    refine ⟨rfl, fun hw ho hp => ?_⟩
    change List Int at l
    repeat' (intro t ht; first | (cases t <;> first | (cases ht; done) | ((try simp only [Bool.not_eq_eq_eq_not, Bool.not_true, Bool.not_false, Bool.and_eq_true, Bool.and_eq_false_iff, decide_eq_true_eq, decide_eq_false_iff_not] at ht); (try simp only [Int.toNat_natCast, dflt_int] at ht))) | (refine ht ?_ ?_ <;> clear ht) | (refine ht.1 ?_ ?_ <;> clear ht) | (refine ht ?_; clear ht))
    all_goals first
      | exact True.intro
      | exact ⟨rfl, rfl⟩
      | trace_state
  · cases e
def evZ (s : Int) (n : Nat) : List Int := List.replicate ((s - (n : Int).tmod s).tmod s).toNat 0
theorem tmod_bd {a s : Int} (ha : 0 ≤ a) (hs : 1 ≤ s) : 0 ≤ a.tmod s ∧ a.tmod s < s := by
  rw [Int.tmod_eq_emod_of_nonneg ha]; exact ⟨Int.emod_nonneg _ (by omega), Int.emod_lt_of_pos _ (by omega)⟩
def ir_buffer_Buffer_Even : IR :=
(.seq
(.seq
(.keep [0, 1]
(.reg (⟨some 4, .mov (.t 1), none⟩ ::
⟨some 5, .bin .lss (.t 4) (.c (.int .i64 1)), none⟩ ::
⟨some 6, .mov (.t 5), none⟩ ::
⟨some 7, .mov (.t 1), some (6, false)⟩ ::
⟨some 8, .bin .gtr (.t 7) (.c (.int .i64 64)), some (6, false)⟩ ::
⟨some 9, .pick (.t 6) (.c (.kb true)) (.t 8), none⟩ ::
[])))
(.cond (.t 9)
(.seq
(.keep [0]
(.reg (⟨some 10, .mov (.t 0), none⟩ ::
⟨some 11, .call false (.f 64) [(.t 10), (.c (.int .i64 10001))], none⟩ ::
[])))
.ret)
.skip))
(.keep [0, 1]
(.reg (⟨some 12, .mov (.t 0), none⟩ ::
⟨some 13, .mov (.t 1), none⟩ ::
⟨some 14, .mov (.t 0), none⟩ ::
⟨some 15, .call false (.f 89) [(.t 14)], none⟩ ::
⟨some 16, .mov (.t 1), none⟩ ::
⟨some 17, .bin .rem (.t 15) (.t 16), none⟩ ::
⟨some 18, .bin .sub (.t 13) (.t 17), none⟩ ::
⟨some 19, .mov (.t 1), none⟩ ::
⟨some 20, .bin .rem (.t 18) (.t 19), none⟩ ::
⟨some 21, .mkrow (.int .u8) 1 (0 : Int) (.t 20) (.t 20), none⟩ ::
⟨some 22, .call false (.f 23) [(.t 12), (.t 21)], none⟩ ::
[]))))
def rd_buffer_Buffer_Even : List RD := []
theorem ok_buffer_Buffer_Even : fnOk Tryz.prog Tryz.f40 ir_buffer_Buffer_Even rd_buffer_Buffer_Even = true := by kernel_rfl
def S_buffer_Buffer_Even : List AV → List Obj → Option (Prop × AV × List Obj)
  | [.ptr 0 0, .int .i64 s], [.box [.own 1, .int .i64 room, .mapv 2, .int .i64 e], .row false (.int .u8) l, .map sq (.int .i64) (.int .i64) h] => some ((0 ≤ room ∧ room ≤ 1000000 ∧ l.length ≤ 1000000 ∧ 1 ≤ s ∧ s ≤ 64, .tup [], [.box [.own 3, .int .i64 room, .mapv 2, .int .i64 (bufE (evZ s l.length) l room e)], .dead, .map sq (.int .i64) (.int .i64) h, .row false (.int .u8) (bufB (evZ s l.length) l room e)]))
  | _, _ => none
theorem snd_buffer_Buffer_Even : SoundS Tryz.prog 40 (RwF S_buffer_Buffer_Even).sum := by
  refine rw_fn Tryz.func40 ok_buffer_Buffer_Even (env_cons (s := RwF S_buffer_Buffer_Fail) snd_buffer_Buffer_Fail (env_cons (s := RoF S_buffer_Buffer_Len) snd_buffer_Buffer_Len (env_cons (s := RwF S_buffer_Buffer_Bytes) snd_buffer_Buffer_Bytes (env_nil _)))) fun args objs p v o e => ?_
  unfold S_buffer_Buffer_Even at e
  split at e
  · rename_i s room e l sq h
    cases e
    refine ⟨rfl, fun hw ho hp => ?_⟩
    change List Int at l
    clear hw ho
    have b1 := tmod_bd (a := (l.length : Int)) (s := s) (by omega) (by omega)
    have b2 := tmod_bd (a := s - (l.length : Int).tmod s) (s := s) (by omega) (by omega)
    repeat' (intro t ht; first | (cases t <;> first | (cases ht; done) | ((try simp only [Bool.not_eq_eq_eq_not, Bool.not_true, Bool.not_false, Bool.and_eq_true, Bool.and_eq_false_iff, decide_eq_true_eq, decide_eq_false_iff_not] at ht); (try simp only [Int.toNat_natCast, dflt_int] at ht); (try (exfalso; first | contradiction | omega)))) | (refine ht ?_ ?_ <;> clear ht) | (refine ht.1 ?_ ?_ <;> clear ht) | (refine ht ?_; clear ht))
    all_goals first
      | exact True.intro
      | ((try simp only [Int.toNat_natCast, dflt_int, decide_eq_true_eq, decide_eq_false_iff_not, Bool.not_eq_eq_eq_not, Bool.not_true, Bool.not_false, Bool.and_eq_true, Bool.and_eq_false_iff, min_i64, max_i64, min_u64, max_u64, min_u32, max_u32, min_u16, max_u16, min_u8, max_u8] at *); omega)
      | exact ⟨hp.1, hp.2.1, hp.2.2.1, by rw [List.length_replicate]; omega⟩
      | exact ⟨rfl, rfl⟩
      | trace_state
  · cases e
end Go.Eng
