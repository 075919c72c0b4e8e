/- Contracts of functions of the given program, told by plain Lean functions. No condition. -/
import Derived.Test.YtoejpijobbcooaaGreatDoorProg
import Derived.Test.YtoejpijobbcooaaGreatDoorEArg
import Derived.KernelRfl
import Derived.Test.YtoejpijobbcooaaGreatDoorR4
namespace Go.Eng
open Go.Proofs
set_option linter.unusedVariables false
set_option linter.unusedSimpArgs false
set_option maxRecDepth 100000
set_option maxHeartbeats 1000000
def ir_bytes_Clone : IR :=
(.seq
(.keep [0]
(.reg (⟨some 2, .mov (.c (.imm (.int .u8) [])), none⟩ ::
[])))
(.seq
(.seq
(.reg (⟨some 3, .mov (.t 0), none⟩ ::
⟨some 4, .isnil false (.t 3), none⟩ ::
[]))
(.cond (.t 4)
(.seq
(.reg (⟨some 2, .mov (.c (.imm (.int .u8) [])), none⟩ ::
[]))
.ret)
.skip))
(.seq
(.reg (⟨some 5, .slice0 (.int .u8), none⟩ ::
⟨some 6, .mov (.t 0), none⟩ ::
⟨some 7, .append (.int .u8) 1 (.t 5) (.t 6), none⟩ ::
⟨some 2, .mov (.t 7), none⟩ ::
[]))
.ret)))
def rd_bytes_Clone : List RD := [.tmp 2 true (some (.int .u8))]
theorem ok_bytes_Clone : fnOk Tryz.prog Tryz.f67 ir_bytes_Clone rd_bytes_Clone = true := by kernel_rfl
def S_bytes_Clone : List AV → List Obj → Option (Prop × AV)
  | [.imm (.int .u8) b], [] => some ((b.length ≤ 140737488355328, .imm (.int .u8) b))
  | _, _ => none
theorem snd_bytes_Clone : SoundS Tryz.prog 67 (RoF S_bytes_Clone).sum := by
  refine ro_fn Tryz.func67 ok_bytes_Clone (env_nil _) fun args objs p v e => ?_
  unfold S_bytes_Clone at e
  split at e
  · rename_i b
    cases e
    refine ⟨rfl, fun hw ho hp => ?_⟩
    change List Int at b
    repeat' (intro t ht; first | (cases t <;> first | (cases ht; done) | ((try simp only [Bool.not_eq_eq_eq_not, Bool.not_true, Bool.not_false, Bool.and_eq_true, Bool.and_eq_false_iff, decide_eq_true_eq, decide_eq_false_iff_not] at ht); (try simp only [Int.toNat_natCast, dflt_int] at ht))) | (refine ht ?_ ?_ <;> clear ht) | (refine ht.1 ?_ ?_ <;> clear ht) | (refine ht ?_; clear ht))
    all_goals first
      | (simp only [cast_rfl, List.length_nil, Nat.zero_add, Nat.mul_one]; omega)
      | exact ⟨rfl, rfl⟩
      | (have e : b = [] := by simp_all
         refine ⟨?_, rfl⟩; rw [e])
      | trace_state
  · cases e
def ir_cursor_Cursor_none : IR :=
(.seq
(.keep [0]
(.reg (⟨some 2, .mov (.c (.kb false)), none⟩ ::
[])))
(.seq
(.keep [0]
(.reg (⟨some 3, .mov (.t 0), none⟩ ::
⟨some 4, .eqp false (.t 3) (.c (.nilp)), none⟩ ::
⟨some 5, .mov (.t 4), none⟩ ::
⟨some 6, .mov (.t 0), some (5, false)⟩ ::
⟨some 7, .nilck (.t 6), some (5, false)⟩ ::
⟨some 8, .fieldAddr 5 (.t 7), some (5, false)⟩ ::
⟨some 9, .load none (.t 8), some (5, false)⟩ ::
⟨some 10, .un .not (.t 9), some (5, false)⟩ ::
⟨some 11, .pick (.t 5) (.c (.kb true)) (.t 10), none⟩ ::
⟨some 2, .mov (.t 11), none⟩ ::
[])))
.ret))
def rd_cursor_Cursor_none : List RD := [.tmp 2 true none]
theorem ok_cursor_Cursor_none : fnOk Tryz.prog Tryz.f82 ir_cursor_Cursor_none rd_cursor_Cursor_none = true := by kernel_rfl
def S_cursor_Cursor_none : List AV → List Obj → Option (Prop × AV)
  | [.ptr 0 0], [.box [.imm (.int .u8) b, .int .i64 p, .int .i64 sh, .int .i64 od, .int .i64 e, .bool true]] => some ((True, .bool false))
  | _, _ => none
theorem snd_cursor_Cursor_none : SoundS Tryz.prog 82 (RoF S_cursor_Cursor_none).sum := by
  refine ro_fn Tryz.func82 ok_cursor_Cursor_none (env_nil _) fun args objs p v e => ?_
  unfold S_cursor_Cursor_none at e
  split at e
  · rename_i b p sh od e
    cases e
    refine ⟨rfl, fun hw ho hp => ?_⟩
    change List Int at b
    repeat' (intro t ht; first | (cases t <;> first | (cases ht; done) | ((try simp only [Bool.not_eq_eq_eq_not, Bool.not_true, Bool.not_false, Bool.and_eq_true, Bool.and_eq_false_iff, decide_eq_true_eq, decide_eq_false_iff_not] at ht); (try simp only [Int.toNat_natCast, dflt_int] at ht))) | (refine ht ?_ ?_ <;> clear ht) | (refine ht.1 ?_ ?_ <;> clear ht) | (refine ht ?_; clear ht))
    all_goals exact ⟨rfl, rfl⟩
  · cases e
def ir_cursor_New : IR :=
(.seq
(.keep [0, 1, 2]
(.reg (⟨some 6, .mov (.c (.nilp)), none⟩ ::
[])))
(.seq
(.keep [0, 1, 2]
(.reg (⟨some 7, .mov (.t 0), none⟩ ::
⟨some 8, .call false (.f 67) [(.t 7)], none⟩ ::
⟨some 9, .mov (.t 1), none⟩ ::
⟨some 10, .mov (.t 2), none⟩ ::
⟨some 11, .build [.imm (.int .u8) [], .int .i64 0, .int .i64 0, .int .i64 0, .int .i64 0, .kb false] [(0, 1, (.t 8)), (2, 1, (.t 9)), (3, 1, (.t 10)), (5, 1, (.c (.kb true)))], none⟩ ::
⟨some 12, .boxv (.t 11), none⟩ ::
⟨some 6, .mov (.t 12), none⟩ ::
[])))
.ret))
def rd_cursor_New : List RD := [.tmp 6 true none]
theorem ok_cursor_New : fnOk Tryz.prog Tryz.f29 ir_cursor_New rd_cursor_New = true := by kernel_rfl
def S_cursor_New : List AV → List Obj → Option (Prop × AV × List Obj)
  | [.imm (.int .u8) b, .int .i64 sh, .int .i64 od], [] => some ((b.length ≤ 140737488355328, .ptr 0 0, [.box [.imm (.int .u8) b, .int .i64 0, .int .i64 sh, .int .i64 od, .int .i64 0, .bool true]]))
  | _, _ => none
theorem snd_cursor_New : SoundS Tryz.prog 29 (RwF S_cursor_New).sum := by
  refine rw_fn Tryz.func29 ok_cursor_New (env_cons (s := RoF S_bytes_Clone) snd_bytes_Clone (env_nil _)) fun args objs p v o e => ?_
  unfold S_cursor_New at e
  split at e
  · rename_i b sh od
    cases e
    refine ⟨rfl, fun hw ho hp => ?_⟩
    change List Int at b
    repeat' (intro t ht; first | (cases t <;> first | (cases ht; done) | ((try simp only [Bool.not_eq_eq_eq_not, Bool.not_true, Bool.not_false, Bool.and_eq_true, Bool.and_eq_false_iff, decide_eq_true_eq, decide_eq_false_iff_not] at ht); (try simp only [Int.toNat_natCast, dflt_int] at ht))) | (refine ht ?_ ?_ <;> clear ht) | (refine ht.1 ?_ ?_ <;> clear ht) | (refine ht ?_; clear ht))
    all_goals first
      | exact hp
      | exact ⟨rfl, rfl⟩
      | trace_state
  · cases e
def failE (e x : Int) : Int := if e = 0 then x else e
def ir_cursor_Cursor_Fail : IR :=
(.seq
(.keep [0, 1]
(.reg (⟨some 4, .mov (.t 0), none⟩ ::
⟨some 5, .call false (.f 82) [(.t 4)], none⟩ ::
⟨some 6, .un .not (.t 5), none⟩ ::
⟨some 7, .mov (.t 6), none⟩ ::
⟨some 8, .mov (.t 0), some (7, true)⟩ ::
⟨some 9, .nilck (.t 8), some (7, true)⟩ ::
⟨some 10, .fieldAddr 4 (.t 9), some (7, true)⟩ ::
⟨some 11, .load none (.t 10), some (7, true)⟩ ::
⟨some 12, .bin .eql (.t 11) (.c (.int .i64 0)), some (7, true)⟩ ::
⟨some 13, .pick (.t 7) (.t 12) (.c (.kb false)), none⟩ ::
[])))
(.cond (.t 13)
(.keep [0, 1]
(.reg (⟨some 14, .mov (.t 0), none⟩ ::
⟨some 15, .mov (.t 1), none⟩ ::
⟨some 16, .nilck (.t 14), none⟩ ::
⟨some 17, .fieldAddr 4 (.t 16), none⟩ ::
⟨none, .store 1 (.t 17) (.t 15), none⟩ ::
[])))
.skip))
def rd_cursor_Cursor_Fail : List RD := []
theorem ok_cursor_Cursor_Fail : fnOk Tryz.prog Tryz.f81 ir_cursor_Cursor_Fail rd_cursor_Cursor_Fail = true := by kernel_rfl
def S_cursor_Cursor_Fail : List AV → List Obj → Option (Prop × AV × List Obj)
  | [.ptr 0 0, .int .i64 x], [.box [.imm (.int .u8) b, .int .i64 p, .int .i64 sh, .int .i64 od, .int .i64 e, .bool true]] => some ((True, .tup [], [.box [.imm (.int .u8) b, .int .i64 p, .int .i64 sh, .int .i64 od, .int .i64 (failE e x), .bool true]]))
  | _, _ => none
theorem snd_cursor_Cursor_Fail : SoundS Tryz.prog 81 (RwF S_cursor_Cursor_Fail).sum := by
  refine rw_fn Tryz.func81 ok_cursor_Cursor_Fail (env_cons (s := RoF S_cursor_Cursor_none) snd_cursor_Cursor_none (env_nil _)) fun args objs p v o e => ?_
  unfold S_cursor_Cursor_Fail at e
  split at e
  · rename_i x b p sh od e
    cases e
    refine ⟨rfl, fun hw ho hp => ?_⟩
    change List Int at b
    repeat' (intro t ht; first | (cases t <;> first | (cases ht; done) | ((try simp only [Bool.not_eq_eq_eq_not, Bool.not_true, Bool.not_false, Bool.and_eq_true, Bool.and_eq_false_iff, decide_eq_true_eq, decide_eq_false_iff_not] at ht); (try simp only [Int.toNat_natCast, dflt_int] at ht))) | (refine ht ?_ ?_ <;> clear ht) | (refine ht.1 ?_ ?_ <;> clear ht) | (refine ht ?_; clear ht))
    all_goals first
      | exact True.intro
      | (unfold failE; simp_all; done)
      | trace_state
  · cases e
def ir_cursor_Cursor_Err : IR :=
(.seq
(.keep [0]
(.reg (⟨some 2, .mov (.c (.int .i64 0)), none⟩ ::
[])))
(.seq
(.seq
(.reg (⟨some 3, .mov (.t 0), none⟩ ::
⟨some 4, .call false (.f 82) [(.t 3)], none⟩ ::
[]))
(.cond (.t 4)
(.seq
(.reg (⟨some 2, .mov (.c (.int .i64 10001)), none⟩ ::
[]))
.ret)
.skip))
(.seq
(.keep [0]
(.reg (⟨some 5, .mov (.t 0), none⟩ ::
⟨some 6, .nilck (.t 5), none⟩ ::
⟨some 7, .fieldAddr 4 (.t 6), none⟩ ::
⟨some 8, .load none (.t 7), none⟩ ::
⟨some 2, .mov (.t 8), none⟩ ::
[])))
.ret)))
def rd_cursor_Cursor_Err : List RD := [.tmp 2 true none]
theorem ok_cursor_Cursor_Err : fnOk Tryz.prog Tryz.f33 ir_cursor_Cursor_Err rd_cursor_Cursor_Err = true := by kernel_rfl
def S_cursor_Cursor_Err : List AV → List Obj → Option (Prop × AV)
  | [.ptr 0 0], [.box [.imm (.int .u8) b, .int .i64 p, .int .i64 sh, .int .i64 od, .int .i64 e, .bool true]] => some ((True, .int .i64 e))
  | _, _ => none
theorem snd_cursor_Cursor_Err : SoundS Tryz.prog 33 (RoF S_cursor_Cursor_Err).sum := by
  refine ro_fn Tryz.func33 ok_cursor_Cursor_Err (env_cons (s := RoF S_cursor_Cursor_none) snd_cursor_Cursor_none (env_nil _)) fun args objs p v e => ?_
  unfold S_cursor_Cursor_Err at e
  split at e
  · rename_i b p sh od e
    cases e
    refine ⟨rfl, fun hw ho hp => ?_⟩
    change List Int at b
    repeat' (intro t ht; first | (cases t <;> first | (cases ht; done) | ((try simp only [Bool.not_eq_eq_eq_not, Bool.not_true, Bool.not_false, Bool.and_eq_true, Bool.and_eq_false_iff, decide_eq_true_eq, decide_eq_false_iff_not] at ht); (try simp only [Int.toNat_natCast, dflt_int] at ht))) | (refine ht ?_ ?_ <;> clear ht) | (refine ht.1 ?_ ?_ <;> clear ht) | (refine ht ?_; clear ht))
    all_goals first
      | exact True.intro
      | exact ⟨rfl, rfl⟩
      | trace_state
  · cases e
def ir_cursor_Cursor_Left : IR :=
(.seq
(.keep [0]
(.reg (⟨some 2, .mov (.c (.int .i64 0)), none⟩ ::
[])))
(.seq
(.seq
(.reg (⟨some 3, .mov (.t 0), none⟩ ::
⟨some 4, .call false (.f 82) [(.t 3)], none⟩ ::
[]))
(.cond (.t 4)
(.seq
(.reg (⟨some 2, .mov (.c (.int .i64 0)), none⟩ ::
[]))
.ret)
.skip))
(.seq
(.keep [0]
(.regD ((⟨some 5, .mov (.t 0), none⟩, []) ::
(⟨some 6, .nilck (.t 5), none⟩, []) ::
(⟨some 7, .fieldAddr 0 (.t 6), none⟩, []) ::
(⟨some 8, .load none (.t 7), none⟩, []) ::
(⟨some 9, .len (.t 8), none⟩, []) ::
(⟨some 10, .mov (.t 0), none⟩, [0, 0, 0, 0, 0]) ::
(⟨some 11, .nilck (.t 10), none⟩, [1, 0, 0, 0, 0]) ::
(⟨some 12, .fieldAddr 1 (.t 11), none⟩, [2, 0, 0, 0, 0]) ::
(⟨some 13, .load none (.t 12), none⟩, [3, 0, 0, 0, 0]) ::
(⟨some 14, .bin .sub (.t 9) (.t 13), none⟩, []) ::
(⟨some 2, .mov (.t 14), none⟩, []) ::
[])))
.ret)))
def rd_cursor_Cursor_Left : List RD := [.tmp 2 true none]
theorem ok_cursor_Cursor_Left : fnOk Tryz.prog Tryz.f119 ir_cursor_Cursor_Left rd_cursor_Cursor_Left = true := by kernel_rfl
def S_cursor_Cursor_Left : List AV → List Obj → Option (Prop × AV)
  | [.ptr 0 0], [.box [.imm (.int .u8) b, .int .i64 p, .int .i64 sh, .int .i64 od, .int .i64 e, .bool true]] => some ((0 ≤ p ∧ p ≤ b.length, .int .i64 (b.length - p)))
  | _, _ => none
theorem snd_cursor_Cursor_Left : SoundS Tryz.prog 119 (RoF S_cursor_Cursor_Left).sum := by
  refine ro_fn Tryz.func119 ok_cursor_Cursor_Left (env_cons (s := RoF S_cursor_Cursor_none) snd_cursor_Cursor_none (env_nil _)) fun args objs p v e => ?_
  unfold S_cursor_Cursor_Left at e
  split at e
  · rename_i b p sh od e
    cases e
    refine ⟨rfl, fun hw ho hp => ?_⟩
    change List Int at b
    have hb : b.length ≤ maxLen := (ho _ (List.mem_cons_self ..) (.imm (.int .u8) b) (by simp)).2
    unfold maxLen at hb
    repeat' (intro t ht; first | (cases t <;> first | (cases ht; done) | ((try simp only [Bool.not_eq_eq_eq_not, Bool.not_true, Bool.not_false, Bool.and_eq_true, Bool.and_eq_false_iff, decide_eq_true_eq, decide_eq_false_iff_not] at ht); (try simp only [Int.toNat_natCast, dflt_int] at ht))) | (refine ht ?_ ?_ <;> clear ht) | (refine ht.1 ?_ ?_ <;> clear ht) | (refine ht ?_; clear ht))
    all_goals first
      | exact True.intro
      | ((try simp only [Int.toNat_natCast, dflt_int, decide_eq_true_eq, decide_eq_false_iff_not, Bool.not_eq_eq_eq_not, Bool.not_true, Bool.not_false, Bool.and_eq_true, Bool.and_eq_false_iff, min_i64, max_i64, min_u64, max_u64, min_u32, max_u32, min_u16, max_u16, min_u8, max_u8] at *); omega)
      | exact ⟨rfl, rfl⟩
      | trace_state
  · cases e
def ir_cursor_Cursor_At : IR :=
(.seq
(.keep [0]
(.reg (⟨some 2, .mov (.c (.int .i64 0)), none⟩ ::
[])))
(.seq
(.seq
(.reg (⟨some 3, .mov (.t 0), none⟩ ::
⟨some 4, .call false (.f 82) [(.t 3)], none⟩ ::
[]))
(.cond (.t 4)
(.seq
(.reg (⟨some 2, .mov (.c (.int .i64 0)), none⟩ ::
[]))
.ret)
.skip))
(.seq
(.keep [0]
(.reg (⟨some 5, .mov (.t 0), none⟩ ::
⟨some 6, .nilck (.t 5), none⟩ ::
⟨some 7, .fieldAddr 1 (.t 6), none⟩ ::
⟨some 8, .load none (.t 7), none⟩ ::
⟨some 2, .mov (.t 8), none⟩ ::
[])))
.ret)))
def rd_cursor_Cursor_At : List RD := [.tmp 2 true none]
theorem ok_cursor_Cursor_At : fnOk Tryz.prog Tryz.f34 ir_cursor_Cursor_At rd_cursor_Cursor_At = true := by kernel_rfl
def S_cursor_Cursor_At : List AV → List Obj → Option (Prop × AV)
  | [.ptr 0 0], [.box [.imm (.int .u8) b, .int .i64 p, .int .i64 sh, .int .i64 od, .int .i64 e, .bool true]] => some ((True, .int .i64 p))
  | _, _ => none
theorem snd_cursor_Cursor_At : SoundS Tryz.prog 34 (RoF S_cursor_Cursor_At).sum := by
  refine ro_fn Tryz.func34 ok_cursor_Cursor_At (env_cons (s := RoF S_cursor_Cursor_none) snd_cursor_Cursor_none (env_nil _)) fun args objs p v e => ?_
  unfold S_cursor_Cursor_At at e
  split at e
  · rename_i b p sh od e
    cases e
    refine ⟨rfl, fun hw ho hp => ?_⟩
    change List Int at b
    repeat' (intro t ht; first | (cases t <;> first | (cases ht; done) | ((try simp only [Bool.not_eq_eq_eq_not, Bool.not_true, Bool.not_false, Bool.and_eq_true, Bool.and_eq_false_iff, decide_eq_true_eq, decide_eq_false_iff_not] at ht); (try simp only [Int.toNat_natCast, dflt_int] at ht))) | (refine ht ?_ ?_ <;> clear ht) | (refine ht.1 ?_ ?_ <;> clear ht) | (refine ht ?_; clear ht))
    all_goals first
      | exact True.intro
      | exact ⟨rfl, rfl⟩
      | trace_state
  · cases e
def curL (w b : List Int) (p e : Int) : List Int := if e = 0 then getL w (b.drop p.toNat) else []
def curP (w b : List Int) (p e : Int) : Int := if e = 0 then (if getK w (b.drop p.toNat) = 1 then p else if getK w (b.drop p.toNat) = 2 then p else p + sizeW w) else p
def curE (w b : List Int) (p sh od e : Int) : Int := if e = 0 then (if getK w (b.drop p.toNat) = 1 then sh else if getK w (b.drop p.toNat) = 2 then od else 0) else e
def ir_cursor_Cursor_Row : IR :=
(.seq
(.keep [0, 1]
(.reg (⟨some 4, .mov (.c (.imm (.int .u64) [])), none⟩ ::
[])))
(.seq
(.seq
(.reg (⟨some 7, .mov (.t 0), none⟩ ::
⟨some 8, .call false (.f 33) [(.t 7)], none⟩ ::
⟨some 9, .bin .neq (.t 8) (.c (.int .i64 0)), none⟩ ::
[]))
(.cond (.t 9)
(.seq
(.reg (⟨some 4, .mov (.c (.imm (.int .u64) [])), none⟩ ::
[]))
.ret)
.skip))
(.seq
(.keep [0, 1]
(.regD ((⟨some 11, .mov (.t 1), none⟩, []) ::
(⟨some 12, .mov (.t 0), none⟩, [0]) ::
(⟨some 13, .nilck (.t 12), none⟩, [1]) ::
(⟨some 14, .fieldAddr 0 (.t 13), none⟩, [2]) ::
(⟨some 15, .load none (.t 14), none⟩, [3]) ::
(⟨some 16, .mov (.t 0), none⟩, [0, 0, 0, 0, 0]) ::
(⟨some 17, .nilck (.t 16), none⟩, [1, 0, 0, 0, 0]) ::
(⟨some 18, .fieldAddr 1 (.t 17), none⟩, [2, 0, 0, 0, 0]) ::
(⟨some 19, .load none (.t 18), none⟩, [3, 0, 0, 0, 0]) ::
(⟨some 20, .slice 1 (.t 15) (some (.t 19)) none none, none⟩, [8]) ::
(⟨some 21, .call false (.f 115) [(.t 11), (.t 20)], none⟩, []) ::
(⟨some 10, .mov (.t 21), none⟩, []) ::
(⟨some 22, .extract (.t 10) 0, none⟩, []) ::
(⟨some 23, .extract (.t 10) 1, none⟩, [0]) ::
(⟨some 5, .mov (.t 22), none⟩, [0]) ::
(⟨some 6, .mov (.t 23), none⟩, []) ::
[])))
(.seq
(.seq
(.keep [0, 1, 5, 6]
(.reg (⟨some 24, .mov (.t 6), none⟩ ::
[])))
(.block 0
(.seq
(.reg (⟨some 35, .bin .eql (.t 24) (.c (.int .i64 1)), none⟩ ::
⟨some 34, .mov (.t 35), none⟩ ::
[]))
(.cond (.t 34)
(.keep [0, 5]
(.reg (⟨some 36, .mov (.t 0), none⟩ ::
⟨some 37, .mov (.t 0), none⟩ ::
⟨some 38, .nilck (.t 37), none⟩ ::
⟨some 39, .fieldAddr 2 (.t 38), none⟩ ::
⟨some 40, .load none (.t 39), none⟩ ::
⟨some 41, .call false (.f 81) [(.t 36), (.t 40)], none⟩ ::
[])))
(.seq
(.reg (⟨some 43, .bin .eql (.t 24) (.c (.int .i64 2)), none⟩ ::
⟨some 42, .mov (.t 43), none⟩ ::
[]))
(.cond (.t 42)
(.keep [0, 5]
(.reg (⟨some 44, .mov (.t 0), none⟩ ::
⟨some 45, .mov (.t 0), none⟩ ::
⟨some 46, .nilck (.t 45), none⟩ ::
⟨some 47, .fieldAddr 3 (.t 46), none⟩ ::
⟨some 48, .load none (.t 47), none⟩ ::
⟨some 49, .call false (.f 81) [(.t 44), (.t 48)], none⟩ ::
[])))
(.keep [0, 1, 5]
(.regD ((⟨some 25, .mov (.t 0), none⟩, []) ::
(⟨some 26, .nilck (.t 25), none⟩, []) ::
(⟨some 27, .fieldAddr 1 (.t 26), none⟩, []) ::
(⟨some 28, .load none (.t 27), none⟩, []) ::
(⟨some 29, .mov (.t 1), none⟩, [0, 0, 0, 0]) ::
(⟨some 30, .call false (.f 50) [(.t 29)], none⟩, [1, 0, 0, 0]) ::
(⟨some 31, .bin .add (.t 28) (.t 30), none⟩, []) ::
(⟨some 32, .nilck (.t 25), none⟩, []) ::
(⟨some 33, .fieldAddr 1 (.t 32), none⟩, []) ::
(⟨none, .store 1 (.t 33) (.t 31), none⟩, []) ::
[])))))))))
(.seq
(.keep [5]
(.reg (⟨some 50, .mov (.t 5), none⟩ ::
⟨some 4, .mov (.t 50), none⟩ ::
[])))
.ret)))))
def rd_cursor_Cursor_Row : List RD := [.tmp 4 true (some (.int .u64))]
theorem ok_cursor_Cursor_Row : fnOk Tryz.prog Tryz.f74 ir_cursor_Cursor_Row rd_cursor_Cursor_Row = true := by kernel_rfl
def S_cursor_Cursor_Row : List AV → List Obj → Option (Prop × AV × List Obj)
  | [.ptr 0 0, .imm (.int .i64) w], [.box [.imm (.int .u8) b, .int .i64 p, .int .i64 sh, .int .i64 od, .int .i64 e, .bool true]] => some ((0 ≤ p ∧ p ≤ b.length ∧ b.length ≤ 140737488355328, .imm (.int .u64) (curL w b p e), [.box [.imm (.int .u8) b, .int .i64 (curP w b p e), .int .i64 sh, .int .i64 od, .int .i64 (curE w b p sh od e), .bool true]]))
  | _, _ => none
theorem snd_cursor_Cursor_Row : SoundS Tryz.prog 74 (RwF S_cursor_Cursor_Row).sum := by
  refine rw_fn Tryz.func74 ok_cursor_Cursor_Row (env_cons (s := RoF S_cursor_Cursor_Err) snd_cursor_Cursor_Err (env_cons (s := RoF S_row_Get) snd_row_Get (env_cons (s := RwF S_cursor_Cursor_Fail) snd_cursor_Cursor_Fail (env_cons (s := RoF S_row_Size) snd_row_Size (env_nil _))))) fun args objs p v o e => ?_
  unfold S_cursor_Cursor_Row at e
  split at e
  · rename_i w b p sh od e
    cases e
    refine ⟨rfl, fun hw ho hp => ?_⟩
    change List Int at w
    change List Int at b
    have hz := sizeW_le w
    repeat' (intro t ht; first | (cases t <;> first | (cases ht; done) | ((try simp only [Bool.not_eq_eq_eq_not, Bool.not_true, Bool.not_false, Bool.and_eq_true, Bool.and_eq_false_iff, decide_eq_true_eq, decide_eq_false_iff_not] at ht); (try simp only [Int.toNat_natCast, dflt_int] at ht))) | (refine ht ?_ ?_ <;> clear ht) | (refine ht.1 ?_ ?_ <;> clear ht) | (refine ht ?_; clear ht))
    all_goals first
      | exact True.intro
      | ((try simp only [Int.toNat_natCast, dflt_int, decide_eq_true_eq, decide_eq_false_iff_not, Bool.not_eq_eq_eq_not, Bool.not_true, Bool.not_false, Bool.and_eq_true, Bool.and_eq_false_iff, min_i64, max_i64, min_u64, max_u64, min_u32, max_u32, min_u16, max_u16, min_u8, max_u8] at *); omega)
      | (unfold curL curP curE; simp_all [failE]; done)
      | trace_state
  · cases e
def numV (w : Int) (b : List Int) (p e : Int) : Int := if 1 ≤ w ∧ w ≤ 8 then (curL [w] b p e).getD 0 0 else 0
def numP (w : Int) (b : List Int) (p e : Int) : Int := if 1 ≤ w ∧ w ≤ 8 then curP [w] b p e else p
def numE (w : Int) (b : List Int) (p sh od e : Int) : Int := if 1 ≤ w ∧ w ≤ 8 then curE [w] b p sh od e else failE e 10001
def ir_cursor_Cursor_Num : IR :=
(.seq
(.keep [0, 1]
(.reg (⟨some 4, .mov (.c (.int .u64 0)), none⟩ ::
[])))
(.seq
(.seq
(.keep [0, 1]
(.reg (⟨some 7, .mov (.t 1), none⟩ ::
⟨some 8, .bin .lss (.t 7) (.c (.int .i64 1)), none⟩ ::
⟨some 9, .mov (.t 8), none⟩ ::
⟨some 10, .mov (.t 1), some (9, false)⟩ ::
⟨some 11, .bin .gtr (.t 10) (.c (.int .i64 8)), some (9, false)⟩ ::
⟨some 12, .pick (.t 9) (.c (.kb true)) (.t 11), none⟩ ::
[])))
(.cond (.t 12)
(.seq
(.keep [0]
(.reg (⟨some 13, .mov (.t 0), none⟩ ::
⟨some 14, .call false (.f 81) [(.t 13), (.c (.int .i64 10001))], none⟩ ::
[])))
(.seq
(.reg (⟨some 4, .mov (.c (.int .u64 0)), none⟩ ::
[]))
.ret))
.skip))
(.seq
(.keep [0, 1]
(.reg (⟨some 15, .mov (.t 0), none⟩ ::
⟨some 16, .mkfn 74 [(.t 15)] [], none⟩ ::
⟨some 5, .mov (.t 16), none⟩ ::
[])))
(.seq
(.seq
(.keep [1, 5]
(.reg (⟨some 17, .mov (.t 5), none⟩ ::
⟨some 18, .mov (.t 1), none⟩ ::
⟨some 19, .sliceAll (.int .i64) 1 [(0, 1, (.t 18))], none⟩ ::
⟨some 20, .call false (.t 17) [(.t 19)], none⟩ ::
⟨some 6, .mov (.t 20), none⟩ ::
[])))
(.seq
(.reg (⟨some 21, .mov (.t 6), none⟩ ::
⟨some 22, .len (.t 21), none⟩ ::
⟨some 23, .bin .gtr (.t 22) (.c (.int .i64 0)), none⟩ ::
[]))
(.cond (.t 23)
(.seq
(.keep [6]
(.reg (⟨some 24, .mov (.t 6), none⟩ ::
⟨some 25, .indexSl 1 (.t 24) (.c (.int .i64 0)), none⟩ ::
⟨some 26, .load none (.t 25), none⟩ ::
⟨some 4, .mov (.t 26), none⟩ ::
[])))
.ret)
.skip)))
(.seq
(.keep []
(.reg (⟨some 4, .mov (.c (.int .u64 0)), none⟩ ::
[])))
.ret)))))
def rd_cursor_Cursor_Num : List RD := [.tmp 4 true none]
theorem ok_cursor_Cursor_Num : fnOk Tryz.prog Tryz.f72 ir_cursor_Cursor_Num rd_cursor_Cursor_Num = true := by kernel_rfl
def S_cursor_Cursor_Num : List AV → List Obj → Option (Prop × AV × List Obj)
  | [.ptr 0 0, .int .i64 w], [.box [.imm (.int .u8) b, .int .i64 p, .int .i64 sh, .int .i64 od, .int .i64 e, .bool true]] => some ((0 ≤ p ∧ p ≤ b.length ∧ b.length ≤ 140737488355328, .int .u64 (numV w b p e), [.box [.imm (.int .u8) b, .int .i64 (numP w b p e), .int .i64 sh, .int .i64 od, .int .i64 (numE w b p sh od e), .bool true]]))
  | _, _ => none
theorem snd_cursor_Cursor_Num : SoundS Tryz.prog 72 (RwF S_cursor_Cursor_Num).sum := by
  refine rw_fn Tryz.func72 ok_cursor_Cursor_Num (env_cons (s := RwF S_cursor_Cursor_Fail) snd_cursor_Cursor_Fail (env_cons (s := RwF S_cursor_Cursor_Row) snd_cursor_Cursor_Row (env_nil _))) fun args objs p v o e => ?_
  unfold S_cursor_Cursor_Num at e
  split at e
  · rename_i w b p sh od e
    cases e
    refine ⟨rfl, fun hw ho hp => ?_⟩
    change List Int at b
    repeat' (intro t ht; first | (cases t <;> first | (cases ht; done) | ((try simp only [Bool.not_eq_eq_eq_not, Bool.not_true, Bool.not_false, Bool.and_eq_true, Bool.and_eq_false_iff, decide_eq_true_eq, decide_eq_false_iff_not] at ht); (try simp only [Int.toNat_natCast, dflt_int] at ht))) | (refine ht ?_ ?_ <;> clear ht) | (refine ht.1 ?_ ?_ <;> clear ht) | (refine ht ?_; clear ht))
    all_goals first
      | exact True.intro
      | exact hp
      | ((try simp only [Int.toNat_natCast, dflt_int, decide_eq_true_eq, decide_eq_false_iff_not, Bool.not_eq_eq_eq_not, Bool.not_true, Bool.not_false, Bool.and_eq_true, Bool.and_eq_false_iff, min_i64, max_i64, min_u64, max_u64, min_u32, max_u32, min_u16, max_u16, min_u8, max_u8] at *); omega)
      | (have hc : 1 ≤ w ∧ w ≤ 8 := by omega
         unfold numV numP numE
         rw [if_pos hc, if_pos hc, if_pos hc]
         first
           | exact ⟨rfl, rfl⟩
           | (have hl : curL [w] b p e = [] := List.eq_nil_of_length_eq_zero (by omega)
              refine ⟨?_, rfl⟩; rw [hl]; rfl))
      | (have hc : ¬ (1 ≤ w ∧ w ≤ 8) := by omega
         unfold numV numP numE
         rw [if_neg hc, if_neg hc, if_neg hc]
         exact ⟨rfl, rfl⟩)
      | trace_state
  · cases e
theorem failE_ne {e x : Int} (h : x ≠ 0) : failE e x ≠ 0 := by unfold failE; split <;> assumption
def takeE (n : Int) (b : List Int) (p sh e : Int) : Int := if n < 0 then failE e 10001 else if b.length - p < n then failE e sh else e
def takeL (n : Int) (b : List Int) (p sh e : Int) : List Int := if takeE n b p sh e = 0 then (b.take (p + n).toNat).drop p.toNat else []
def takeP (n : Int) (b : List Int) (p sh e : Int) : Int := if takeE n b p sh e = 0 then p + n else p
def ir_cursor_Cursor_take : IR :=
(.seq
(.keep [0, 1]
(.reg (⟨some 4, .mov (.c (.imm (.int .u8) [])), none⟩ ::
⟨some 5, .mov (.c (.kb false)), none⟩ ::
[])))
(.seq
(.seq
(.reg (⟨some 7, .mov (.t 1), none⟩ ::
⟨some 8, .bin .lss (.t 7) (.c (.int .i64 0)), none⟩ ::
[]))
(.cond (.t 8)
(.reg (⟨some 9, .mov (.t 0), none⟩ ::
⟨some 10, .call false (.f 81) [(.t 9), (.c (.int .i64 10001))], none⟩ ::
[]))
(.seq
(.keep [0, 1]
(.reg (⟨some 11, .mov (.t 1), none⟩ ::
⟨some 12, .mov (.t 0), none⟩ ::
⟨some 13, .call false (.f 119) [(.t 12)], none⟩ ::
⟨some 14, .bin .gtr (.t 11) (.t 13), none⟩ ::
⟨some 15, .mov (.t 14), none⟩ ::
⟨some 16, .mov (.t 0), some (15, true)⟩ ::
⟨some 17, .call false (.f 82) [(.t 16)], some (15, true)⟩ ::
⟨some 18, .un .not (.t 17), some (15, true)⟩ ::
⟨some 19, .pick (.t 15) (.t 18) (.c (.kb false)), none⟩ ::
[])))
(.cond (.t 19)
(.keep [0, 1]
(.reg (⟨some 20, .mov (.t 0), none⟩ ::
⟨some 21, .mov (.t 0), none⟩ ::
⟨some 22, .nilck (.t 21), none⟩ ::
⟨some 23, .fieldAddr 2 (.t 22), none⟩ ::
⟨some 24, .load none (.t 23), none⟩ ::
⟨some 25, .call false (.f 81) [(.t 20), (.t 24)], none⟩ ::
[])))
.skip))))
(.seq
(.seq
(.keep [0, 1]
(.reg (⟨some 26, .mov (.t 0), none⟩ ::
⟨some 27, .call false (.f 33) [(.t 26)], none⟩ ::
⟨some 28, .bin .neq (.t 27) (.c (.int .i64 0)), none⟩ ::
[])))
(.cond (.t 28)
(.seq
(.reg (⟨some 4, .mov (.c (.imm (.int .u8) [])), none⟩ ::
⟨some 5, .mov (.c (.kb false)), none⟩ ::
[]))
.ret)
.skip))
(.seq
(.keep [0, 1]
(.regD ((⟨some 29, .mov (.t 0), none⟩, []) ::
(⟨some 30, .nilck (.t 29), none⟩, []) ::
(⟨some 31, .fieldAddr 0 (.t 30), none⟩, []) ::
(⟨some 32, .load none (.t 31), none⟩, []) ::
(⟨some 33, .mov (.t 0), none⟩, [0, 0, 0, 0]) ::
(⟨some 34, .nilck (.t 33), none⟩, [1, 0, 0, 0]) ::
(⟨some 35, .fieldAddr 1 (.t 34), none⟩, [2, 0, 0, 0]) ::
(⟨some 36, .load none (.t 35), none⟩, [3, 0, 0, 0]) ::
(⟨some 37, .mov (.t 0), none⟩, [0, 0, 0, 0, 0, 0, 0, 0]) ::
(⟨some 38, .nilck (.t 37), none⟩, [1, 0, 0, 0, 0, 0, 0, 0]) ::
(⟨some 39, .fieldAddr 1 (.t 38), none⟩, [2, 0, 0, 0, 0, 0, 0, 0]) ::
(⟨some 40, .load none (.t 39), none⟩, [3, 0, 0, 0, 0, 0, 0, 0]) ::
(⟨some 41, .mov (.t 1), none⟩, [0, 0, 0, 0, 0, 0, 0, 0, 0, 0, 0, 0]) ::
(⟨some 42, .bin .add (.t 40) (.t 41), none⟩, [5, 0, 0, 0, 0, 0, 0, 0]) ::
(⟨some 43, .mov (.t 0), none⟩, [0, 0, 0, 0, 0, 0, 0, 0, 0, 0, 0, 0, 0, 0]) ::
(⟨some 44, .nilck (.t 43), none⟩, [1, 0, 0, 0, 0, 0, 0, 0, 0, 0, 0, 0, 0, 0]) ::
(⟨some 45, .fieldAddr 1 (.t 44), none⟩, [2, 0, 0, 0, 0, 0, 0, 0, 0, 0, 0, 0, 0, 0]) ::
(⟨some 46, .load none (.t 45), none⟩, [3, 0, 0, 0, 0, 0, 0, 0, 0, 0, 0, 0, 0, 0]) ::
(⟨some 47, .mov (.t 1), none⟩, [0, 0, 0, 0, 0, 0, 0, 0, 0, 0, 0, 0, 0, 0, 0, 0, 0, 0]) ::
(⟨some 48, .bin .add (.t 46) (.t 47), none⟩, [5, 0, 0, 0, 0, 0, 0, 0, 0, 0, 0, 0, 0, 0]) ::
(⟨some 49, .slice 1 (.t 32) (some (.t 36)) (some (.t 42)) (some (.t 48)), none⟩, []) ::
(⟨some 6, .mov (.t 49), none⟩, []) ::
[])))
(.seq
(.keep [0, 1, 6]
(.reg (⟨some 50, .mov (.t 0), none⟩ ::
⟨some 51, .nilck (.t 50), none⟩ ::
⟨some 52, .fieldAddr 1 (.t 51), none⟩ ::
⟨some 53, .load none (.t 52), none⟩ ::
⟨some 54, .mov (.t 1), none⟩ ::
⟨some 55, .bin .add (.t 53) (.t 54), none⟩ ::
⟨some 56, .nilck (.t 50), none⟩ ::
⟨some 57, .fieldAddr 1 (.t 56), none⟩ ::
⟨none, .store 1 (.t 57) (.t 55), none⟩ ::
[])))
(.seq
(.keep [6]
(.reg (⟨some 58, .mov (.t 6), none⟩ ::
⟨some 4, .mov (.t 58), none⟩ ::
⟨some 5, .mov (.c (.kb true)), none⟩ ::
[])))
.ret))))))
def rd_cursor_Cursor_take : List RD := [.tmp 4 true (some (.int .u8)), .tmp 5 true none]
theorem ok_cursor_Cursor_take : fnOk Tryz.prog Tryz.f79 ir_cursor_Cursor_take rd_cursor_Cursor_take = true := by kernel_rfl
def S_cursor_Cursor_take : List AV → List Obj → Option (Prop × AV × List Obj)
  | [.ptr 0 0, .int .i64 n], [.box [.imm (.int .u8) b, .int .i64 p, .int .i64 sh, .int .i64 od, .int .i64 e, .bool true]] => some ((0 ≤ p ∧ p ≤ b.length ∧ b.length ≤ 140737488355328 ∧ sh ≠ 0, .tup [.imm (.int .u8) (takeL n b p sh e), .bool (decide (takeE n b p sh e = 0))], [.box [.imm (.int .u8) b, .int .i64 (takeP n b p sh e), .int .i64 sh, .int .i64 od, .int .i64 (takeE n b p sh e), .bool true]]))
  | _, _ => none
theorem snd_cursor_Cursor_take : SoundS Tryz.prog 79 (RwF S_cursor_Cursor_take).sum := by
  refine rw_fn Tryz.func79 ok_cursor_Cursor_take (env_cons (s := RwF S_cursor_Cursor_Fail) snd_cursor_Cursor_Fail (env_cons (s := RoF S_cursor_Cursor_Left) snd_cursor_Cursor_Left (env_cons (s := RoF S_cursor_Cursor_none) snd_cursor_Cursor_none (env_cons (s := RoF S_cursor_Cursor_Err) snd_cursor_Cursor_Err (env_nil _))))) fun args objs p v o e => ?_
  unfold S_cursor_Cursor_take at e
  split at e
  · rename_i n b p sh od e
    cases e
    refine ⟨rfl, fun hw ho hp => ?_⟩
    change List Int at b
    have hf1 : failE e 10001 ≠ 0 := failE_ne (by decide)
    have hf2 : failE e sh ≠ 0 := failE_ne hp.2.2.2
    repeat' (intro t ht; first | (cases t <;> first | (cases ht; done) | ((try simp only [Bool.not_eq_eq_eq_not, Bool.not_true, Bool.not_false, Bool.and_eq_true, Bool.and_eq_false_iff, decide_eq_true_eq, decide_eq_false_iff_not] at ht); (try simp only [Int.toNat_natCast, dflt_int] at ht))) | (refine ht ?_ ?_ <;> clear ht) | (refine ht.1 ?_ ?_ <;> clear ht) | (refine ht ?_; clear ht))
    all_goals first
      | exact True.intro
      | (exfalso; omega)
      | omega
      | ((try simp only [Int.toNat_natCast, dflt_int, decide_eq_true_eq, decide_eq_false_iff_not, Bool.not_eq_eq_eq_not, Bool.not_true, Bool.not_false, Bool.and_eq_true, Bool.and_eq_false_iff, min_i64, max_i64, min_u64, max_u64, min_u32, max_u32, min_u16, max_u16, min_u8, max_u8] at *); omega)
      | (first
           | (have hE : takeE n b p sh e = e := by unfold takeE; rw [if_neg (by assumption), if_neg (by assumption)]
              unfold takeL takeP; rw [hE]
              first
                | (have h0 : e = 0 := by assumption
                   rw [if_pos h0, if_pos h0, decide_eq_true h0]; exact ⟨rfl, rfl⟩)
                | (have h0 : ¬ e = 0 := by assumption
                   rw [if_neg h0, if_neg h0, decide_eq_false h0]; exact ⟨rfl, rfl⟩))
           | (have hE : takeE n b p sh e = failE e sh := by unfold takeE; rw [if_neg (by assumption), if_pos (by assumption)]
              unfold takeL takeP; rw [hE, if_neg hf2, if_neg hf2, decide_eq_false hf2]; exact ⟨rfl, rfl⟩)
           | (have hE : takeE n b p sh e = failE e 10001 := by unfold takeE; rw [if_pos (by assumption)]
              unfold takeL takeP; rw [hE, if_neg hf1, if_neg hf1, decide_eq_false hf1]; exact ⟨rfl, rfl⟩))
      | trace_state
  · cases e
def ir_cursor_Cursor_Bytes : IR :=
(.seq
(.keep [0, 1]
(.reg (⟨some 4, .mov (.c (.imm (.int .u8) [])), none⟩ ::
[])))
(.seq
(.keep [0, 1]
(.reg (⟨some 8, .mov (.t 0), none⟩ ::
⟨some 9, .mov (.t 1), none⟩ ::
⟨some 10, .call false (.f 79) [(.t 8), (.t 9)], none⟩ ::
⟨some 7, .mov (.t 10), none⟩ ::
⟨some 11, .extract (.t 7) 0, none⟩ ::
⟨some 12, .extract (.t 7) 1, none⟩ ::
⟨some 5, .mov (.t 11), none⟩ ::
⟨some 6, .mov (.t 12), none⟩ ::
[])))
(.seq
(.keep [5]
(.reg (⟨some 13, .mov (.t 5), none⟩ ::
⟨some 14, .call false (.f 67) [(.t 13)], none⟩ ::
⟨some 4, .mov (.t 14), none⟩ ::
[])))
.ret)))
def rd_cursor_Cursor_Bytes : List RD := [.tmp 4 true (some (.int .u8))]
theorem ok_cursor_Cursor_Bytes : fnOk Tryz.prog Tryz.f30 ir_cursor_Cursor_Bytes rd_cursor_Cursor_Bytes = true := by kernel_rfl
def S_cursor_Cursor_Bytes : List AV → List Obj → Option (Prop × AV × List Obj)
  | [.ptr 0 0, .int .i64 n], [.box [.imm (.int .u8) b, .int .i64 p, .int .i64 sh, .int .i64 od, .int .i64 e, .bool true]] => some ((0 ≤ p ∧ p ≤ b.length ∧ b.length ≤ 140737488355328 ∧ sh ≠ 0, .imm (.int .u8) (takeL n b p sh e), [.box [.imm (.int .u8) b, .int .i64 (takeP n b p sh e), .int .i64 sh, .int .i64 od, .int .i64 (takeE n b p sh e), .bool true]]))
  | _, _ => none
theorem snd_cursor_Cursor_Bytes : SoundS Tryz.prog 30 (RwF S_cursor_Cursor_Bytes).sum := by
  refine rw_fn Tryz.func30 ok_cursor_Cursor_Bytes (env_cons (s := RwF S_cursor_Cursor_take) snd_cursor_Cursor_take (env_cons (s := RoF S_bytes_Clone) snd_bytes_Clone (env_nil _))) fun args objs p v o e => ?_
  unfold S_cursor_Cursor_Bytes at e
  split at e
  · rename_i n b p sh od e
    cases e
    refine ⟨rfl, fun hw ho hp => ?_⟩
    change List Int at b
    have hlen : (takeL n b p sh e).length ≤ 140737488355328 := by
      unfold takeL; split
      · rw [List.length_drop, List.length_take]; omega
      · exact Nat.zero_le _
    repeat' (intro t ht; first | (cases t <;> first | (cases ht; done) | ((try simp only [Bool.not_eq_eq_eq_not, Bool.not_true, Bool.not_false, Bool.and_eq_true, Bool.and_eq_false_iff, decide_eq_true_eq, decide_eq_false_iff_not] at ht); (try simp only [Int.toNat_natCast, dflt_int] at ht))) | (refine ht ?_ ?_ <;> clear ht) | (refine ht.1 ?_ ?_ <;> clear ht) | (refine ht ?_; clear ht))
    all_goals first
      | exact hp
      | exact hlen
      | exact ⟨rfl, rfl⟩
      | trace_state
  · cases e
end Go.Eng
