/- Contracts of functions of the given program, told by plain Lean functions. No condition. -/
import Derived.Test.YtmbcgankddgpjaaDoorProg
import Derived.Test.YtmbcgankddgpjaaDoorEArg
import Derived.KernelRfl
import Derived.Test.YtmbcgankddgpjaaDoorR4
namespace Go.Eng
open Go.Proofs
set_option linter.unusedVariables false
set_option linter.unusedSimpArgs false
set_option maxRecDepth 100000
set_option maxHeartbeats 1000000
def ir_bytes_Clone : IR :=
(.seq
(.keep [0]
(.reg (oD 2 (.mov (.c (.imm (.int .u8) []))) ::
[])))
(.seq
(.seq
(.reg (oM 3 0 ::
oD 4 (.isnil false (.t 3)) ::
[]))
(.cond (.t 4)
(.seq
(.reg (oD 2 (.mov (.c (.imm (.int .u8) []))) ::
[]))
.ret)
.skip))
(.seq
(.reg (oD 5 (.slice0 (.int .u8)) ::
oM 6 0 ::
oD 7 (.append (.int .u8) 1 (.t 5) (.t 6)) ::
oM 2 7 ::
[]))
.ret)))
def rd_bytes_Clone : List RD := [.tmp 2 true (some (.int .u8))]
theorem ok_bytes_Clone : fnOk Tryd.prog Tryd.f67 ir_bytes_Clone rd_bytes_Clone = true := by kernel_rfl
def S_bytes_Clone : List AV → List Obj → Option (Prop × AV)
  | [.imm (.int .u8) b], [] => some ((b.length ≤ 140737488355328, .imm (.int .u8) b))
  | _, _ => none
theorem snd_bytes_Clone : SoundS Tryd.prog 67 (RoF S_bytes_Clone).sum := by
  refine ro_fn Tryd.func67 ok_bytes_Clone (env_nil _) fun args objs p v e => ?_
  unfold S_bytes_Clone at e
  split at e
  · rename_i b
    cases e
    refine ⟨rfl, fun hw ho hp => ?_⟩
    change List Int at b
    repeat' (intro t ht; first | (cases t <;> first | (cases ht; done) | ((try simp only [bn_s] at ht); (try simp only [nd_s] at ht))) | (refine ht ?_ ?_ <;> clear ht) | (refine ht.1 ?_ ?_ <;> clear ht) | (refine ht ?_; clear ht))
    all_goals first
      | (simp only [cast_rfl, List.length_nil, Nat.zero_add, Nat.mul_one]; omega)
      | exact ⟨rfl, rfl⟩
      | (have e : b = [] := by simp_all
         refine ⟨?_, rfl⟩; rw [e])
      | trace_state
  · cases e
def ir_cursor_Cursor_none : IR :=
(.seq
(.keep [0]
(.reg (oD 2 (.mov cF) ::
[])))
(.seq
(.keep [0]
(.reg (oM 3 0 ::
oD 4 (.eqp false (.t 3) (.c (.nilp))) ::
oM 5 4 ::
oF 5 6 (.mov (.t 0)) ::
oF 5 7 (.nilck (.t 6)) ::
oF 5 8 (.fieldAddr 5 (.t 7)) ::
oF 5 9 (.load none (.t 8)) ::
oF 5 10 (.un .not (.t 9)) ::
oD 11 (.pick (.t 5) cT (.t 10)) ::
oM 2 11 ::
[])))
.ret))
def rd_cursor_Cursor_none : List RD := [.tmp 2 true none]
theorem ok_cursor_Cursor_none : fnOk Tryd.prog Tryd.f69 ir_cursor_Cursor_none rd_cursor_Cursor_none = true := by kernel_rfl
def S_cursor_Cursor_none : List AV → List Obj → Option (Prop × AV)
  | [.ptr 0 0], [.box [.imm (.int .u8) b, .int .i64 p, .int .i64 sh, .int .i64 od, .int .i64 e, .bool true]] => some ((True, .bool false))
  | _, _ => none
theorem snd_cursor_Cursor_none : SoundS Tryd.prog 69 (RoF S_cursor_Cursor_none).sum := by
  refine ro_fn Tryd.func69 ok_cursor_Cursor_none (env_nil _) fun args objs p v e => ?_
  unfold S_cursor_Cursor_none at e
  split at e
  · rename_i b p sh od e
    cases e
    refine ⟨rfl, fun hw ho hp => ?_⟩
    change List Int at b
    repeat' (intro t ht; first | (cases t <;> first | (cases ht; done) | ((try simp only [bn_s] at ht); (try simp only [nd_s] at ht))) | (refine ht ?_ ?_ <;> clear ht) | (refine ht.1 ?_ ?_ <;> clear ht) | (refine ht ?_; clear ht))
    all_goals exact ⟨rfl, rfl⟩
  · cases e
def ir_cursor_New : IR :=
(.seq
(.keep [0, 1, 2]
(.reg (oD 6 (.mov (.c (.nilp))) ::
[])))
(.seq
(.keep [0, 1, 2]
(.reg (oM 7 0 ::
oD 8 (.call false (.f 67) [(.t 7)]) ::
oM 9 1 ::
oM 10 2 ::
oD 11 (.build [.imm (.int .u8) [], .int .i64 0, .int .i64 0, .int .i64 0, .int .i64 0, .kb false] [(0, 1, (.t 8)), (2, 1, (.t 9)), (3, 1, (.t 10)), (5, 1, cT)]) ::
oD 12 (.boxv (.t 11)) ::
oM 6 12 ::
[])))
.ret))
def rd_cursor_New : List RD := [.tmp 6 true none]
theorem ok_cursor_New : fnOk Tryd.prog Tryd.f41 ir_cursor_New rd_cursor_New = true := by kernel_rfl
def S_cursor_New : List AV → List Obj → Option (Prop × AV × List Obj)
  | [.imm (.int .u8) b, .int .i64 sh, .int .i64 od], [] => some ((b.length ≤ 140737488355328, .ptr 0 0, [.box [.imm (.int .u8) b, .int .i64 0, .int .i64 sh, .int .i64 od, .int .i64 0, .bool true]]))
  | _, _ => none
theorem snd_cursor_New : SoundS Tryd.prog 41 (RwF S_cursor_New).sum := by
  refine rw_fn Tryd.func41 ok_cursor_New (env_cons (s := RoF S_bytes_Clone) snd_bytes_Clone (env_nil _)) fun args objs p v o e => ?_
  unfold S_cursor_New at e
  split at e
  · rename_i b sh od
    cases e
    refine ⟨rfl, fun hw ho hp => ?_⟩
    change List Int at b
    repeat' (intro t ht; first | (cases t <;> first | (cases ht; done) | ((try simp only [bn_s] at ht); (try simp only [nd_s] at ht))) | (refine ht ?_ ?_ <;> clear ht) | (refine ht.1 ?_ ?_ <;> clear ht) | (refine ht ?_; clear ht))
    all_goals first
      | exact hp
      | exact ⟨rfl, rfl⟩
      | trace_state
  · cases e
def failE (e x : Int) : Int := if e = 0 then x else e
def ir_cursor_Cursor_Fail : IR :=
(.seq
(.keep [0, 1]
(.reg (oM 4 0 ::
oD 5 (.call false (.f 69) [(.t 4)]) ::
oD 6 (.un .not (.t 5)) ::
oM 7 6 ::
oT 7 8 (.mov (.t 0)) ::
oT 7 9 (.nilck (.t 8)) ::
oT 7 10 (.fieldAddr 4 (.t 9)) ::
oT 7 11 (.load none (.t 10)) ::
oT 7 12 (.bin .eql (.t 11) (cI 0)) ::
oD 13 (.pick (.t 7) (.t 12) cF) ::
[])))
(.cond (.t 13)
(.keep [0, 1]
(.reg (oM 14 0 ::
oM 15 1 ::
oD 16 (.nilck (.t 14)) ::
oD 17 (.fieldAddr 4 (.t 16)) ::
oN (.store 1 (.t 17) (.t 15)) ::
[])))
.skip))
def rd_cursor_Cursor_Fail : List RD := []
theorem ok_cursor_Cursor_Fail : fnOk Tryd.prog Tryd.f68 ir_cursor_Cursor_Fail rd_cursor_Cursor_Fail = true := by kernel_rfl
def S_cursor_Cursor_Fail : List AV → List Obj → Option (Prop × AV × List Obj)
  | [.ptr 0 0, .int .i64 x], [.box [.imm (.int .u8) b, .int .i64 p, .int .i64 sh, .int .i64 od, .int .i64 e, .bool true]] => some ((True, .tup [], [.box [.imm (.int .u8) b, .int .i64 p, .int .i64 sh, .int .i64 od, .int .i64 (failE e x), .bool true]]))
  | _, _ => none
theorem snd_cursor_Cursor_Fail : SoundS Tryd.prog 68 (RwF S_cursor_Cursor_Fail).sum := by
  refine rw_fn Tryd.func68 ok_cursor_Cursor_Fail (env_cons (s := RoF S_cursor_Cursor_none) snd_cursor_Cursor_none (env_nil _)) fun args objs p v o e => ?_
  unfold S_cursor_Cursor_Fail at e
  split at e
  · rename_i x b p sh od e
    cases e
    refine ⟨rfl, fun hw ho hp => ?_⟩
    change List Int at b
    repeat' (intro t ht; first | (cases t <;> first | (cases ht; done) | ((try simp only [bn_s] at ht); (try simp only [nd_s] at ht))) | (refine ht ?_ ?_ <;> clear ht) | (refine ht.1 ?_ ?_ <;> clear ht) | (refine ht ?_; clear ht))
    all_goals first
      | exact True.intro
      | (unfold failE; simp_all; done)
      | trace_state
  · cases e
def ir_cursor_Cursor_Err : IR :=
(.seq
(.keep [0]
(.reg (oD 2 (.mov (cI 0)) ::
[])))
(.seq
(.seq
(.reg (oM 3 0 ::
oD 4 (.call false (.f 69) [(.t 3)]) ::
[]))
(.cond (.t 4)
(.seq
(.reg (oD 2 (.mov (cI 10001)) ::
[]))
.ret)
.skip))
(.seq
(.keep [0]
(.reg (oM 5 0 ::
oD 6 (.nilck (.t 5)) ::
oD 7 (.fieldAddr 4 (.t 6)) ::
oL 8 7 ::
oM 2 8 ::
[])))
.ret)))
def rd_cursor_Cursor_Err : List RD := [.tmp 2 true none]
theorem ok_cursor_Cursor_Err : fnOk Tryd.prog Tryd.f43 ir_cursor_Cursor_Err rd_cursor_Cursor_Err = true := by kernel_rfl
def S_cursor_Cursor_Err : List AV → List Obj → Option (Prop × AV)
  | [.ptr 0 0], [.box [.imm (.int .u8) b, .int .i64 p, .int .i64 sh, .int .i64 od, .int .i64 e, .bool true]] => some ((True, .int .i64 e))
  | _, _ => none
theorem snd_cursor_Cursor_Err : SoundS Tryd.prog 43 (RoF S_cursor_Cursor_Err).sum := by
  refine ro_fn Tryd.func43 ok_cursor_Cursor_Err (env_cons (s := RoF S_cursor_Cursor_none) snd_cursor_Cursor_none (env_nil _)) fun args objs p v e => ?_
  unfold S_cursor_Cursor_Err at e
  split at e
  · rename_i b p sh od e
    cases e
    refine ⟨rfl, fun hw ho hp => ?_⟩
    change List Int at b
    repeat' (intro t ht; first | (cases t <;> first | (cases ht; done) | ((try simp only [bn_s] at ht); (try simp only [nd_s] at ht))) | (refine ht ?_ ?_ <;> clear ht) | (refine ht.1 ?_ ?_ <;> clear ht) | (refine ht ?_; clear ht))
    all_goals first
      | exact True.intro
      | exact ⟨rfl, rfl⟩
      | trace_state
  · cases e
def ir_cursor_Cursor_Left : IR :=
(.seq
(.keep [0]
(.reg (oD 2 (.mov (cI 0)) ::
[])))
(.seq
(.seq
(.reg (oM 3 0 ::
oD 4 (.call false (.f 69) [(.t 3)]) ::
[]))
(.cond (.t 4)
(.seq
(.reg (oD 2 (.mov (cI 0)) ::
[]))
.ret)
.skip))
(.seq
(.keep [0]
(.regD ((oM 5 0, []) ::
(oD 6 (.nilck (.t 5)), []) ::
(oD 7 (.fieldAddr 0 (.t 6)), []) ::
(oL 8 7, []) ::
(oD 9 (.len (.t 8)), []) ::
(oM 10 0, [0, 0, 0, 0, 0]) ::
(oD 11 (.nilck (.t 10)), [1, 0, 0, 0, 0]) ::
(oD 12 (.fieldAddr 1 (.t 11)), [2, 0, 0, 0, 0]) ::
(oL 13 12, [3, 0, 0, 0, 0]) ::
(oD 14 (.bin .sub (.t 9) (.t 13)), []) ::
(oM 2 14, []) ::
[])))
.ret)))
def rd_cursor_Cursor_Left : List RD := [.tmp 2 true none]
theorem ok_cursor_Cursor_Left : fnOk Tryd.prog Tryd.f94 ir_cursor_Cursor_Left rd_cursor_Cursor_Left = true := by kernel_rfl
def S_cursor_Cursor_Left : List AV → List Obj → Option (Prop × AV)
  | [.ptr 0 0], [.box [.imm (.int .u8) b, .int .i64 p, .int .i64 sh, .int .i64 od, .int .i64 e, .bool true]] => some ((0 ≤ p ∧ p ≤ b.length, .int .i64 (b.length - p)))
  | _, _ => none
theorem snd_cursor_Cursor_Left : SoundS Tryd.prog 94 (RoF S_cursor_Cursor_Left).sum := by
  refine ro_fn Tryd.func94 ok_cursor_Cursor_Left (env_cons (s := RoF S_cursor_Cursor_none) snd_cursor_Cursor_none (env_nil _)) fun args objs p v e => ?_
  unfold S_cursor_Cursor_Left at e
  split at e
  · rename_i b p sh od e
    cases e
    refine ⟨rfl, fun hw ho hp => ?_⟩
    change List Int at b
    have hb : b.length ≤ maxLen := (ho _ (List.mem_cons_self ..) (.imm (.int .u8) b) (by simp)).2
    unfold maxLen at hb
    repeat' (intro t ht; first | (cases t <;> first | (cases ht; done) | ((try simp only [bn_s] at ht); (try simp only [nd_s] at ht))) | (refine ht ?_ ?_ <;> clear ht) | (refine ht.1 ?_ ?_ <;> clear ht) | (refine ht ?_; clear ht))
    all_goals first
      | exact True.intro
      | ((try simp only [nd_s, bn_s, mm_s] at *); omega)
      | exact ⟨rfl, rfl⟩
      | trace_state
  · cases e
def ir_cursor_Cursor_At : IR :=
(.seq
(.keep [0]
(.reg (oD 2 (.mov (cI 0)) ::
[])))
(.seq
(.seq
(.reg (oM 3 0 ::
oD 4 (.call false (.f 69) [(.t 3)]) ::
[]))
(.cond (.t 4)
(.seq
(.reg (oD 2 (.mov (cI 0)) ::
[]))
.ret)
.skip))
(.seq
(.keep [0]
(.reg (oM 5 0 ::
oD 6 (.nilck (.t 5)) ::
oD 7 (.fieldAddr 1 (.t 6)) ::
oL 8 7 ::
oM 2 8 ::
[])))
.ret)))
def rd_cursor_Cursor_At : List RD := [.tmp 2 true none]
theorem ok_cursor_Cursor_At : fnOk Tryd.prog Tryd.f48 ir_cursor_Cursor_At rd_cursor_Cursor_At = true := by kernel_rfl
def S_cursor_Cursor_At : List AV → List Obj → Option (Prop × AV)
  | [.ptr 0 0], [.box [.imm (.int .u8) b, .int .i64 p, .int .i64 sh, .int .i64 od, .int .i64 e, .bool true]] => some ((True, .int .i64 p))
  | _, _ => none
theorem snd_cursor_Cursor_At : SoundS Tryd.prog 48 (RoF S_cursor_Cursor_At).sum := by
  refine ro_fn Tryd.func48 ok_cursor_Cursor_At (env_cons (s := RoF S_cursor_Cursor_none) snd_cursor_Cursor_none (env_nil _)) fun args objs p v e => ?_
  unfold S_cursor_Cursor_At at e
  split at e
  · rename_i b p sh od e
    cases e
    refine ⟨rfl, fun hw ho hp => ?_⟩
    change List Int at b
    repeat' (intro t ht; first | (cases t <;> first | (cases ht; done) | ((try simp only [bn_s] at ht); (try simp only [nd_s] at ht))) | (refine ht ?_ ?_ <;> clear ht) | (refine ht.1 ?_ ?_ <;> clear ht) | (refine ht ?_; clear ht))
    all_goals first
      | exact True.intro
      | exact ⟨rfl, rfl⟩
      | trace_state
  · cases e
def curL (w b : List Int) (p e : Int) : List Int := if e = 0 then getL w (b.drop p.toNat) else []
def curP (w b : List Int) (p e : Int) : Int := if e = 0 then (if getK w (b.drop p.toNat) = 1 then p else if getK w (b.drop p.toNat) = 2 then p else p + sizeW w) else p
def curE (w b : List Int) (p sh od e : Int) : Int := if e = 0 then (if getK w (b.drop p.toNat) = 1 then sh else if getK w (b.drop p.toNat) = 2 then od else 0) else e
def ir_cursor_Cursor_Row : IR :=
(.seq
(.keep [0, 1]
(.reg (oD 4 (.mov (.c (.imm (.int .u64) []))) ::
[])))
(.seq
(.seq
(.reg (oM 7 0 ::
oD 8 (.call false (.f 43) [(.t 7)]) ::
oD 9 (.bin .neq (.t 8) (cI 0)) ::
[]))
(.cond (.t 9)
(.seq
(.reg (oD 4 (.mov (.c (.imm (.int .u64) []))) ::
[]))
.ret)
.skip))
(.seq
(.keep [0, 1]
(.regD ((oM 11 1, []) ::
(oM 12 0, [0]) ::
(oD 13 (.nilck (.t 12)), [1]) ::
(oD 14 (.fieldAddr 0 (.t 13)), [2]) ::
(oL 15 14, [3]) ::
(oM 16 0, [0, 0, 0, 0, 0]) ::
(oD 17 (.nilck (.t 16)), [1, 0, 0, 0, 0]) ::
(oD 18 (.fieldAddr 1 (.t 17)), [2, 0, 0, 0, 0]) ::
(oL 19 18, [3, 0, 0, 0, 0]) ::
(oD 20 (.slice 1 (.t 15) (some (.t 19)) none none), [8]) ::
(oD 21 (.call false (.f 72) [(.t 11), (.t 20)]), []) ::
(oM 10 21, []) ::
(oD 22 (.extract (.t 10) 0), []) ::
(oD 23 (.extract (.t 10) 1), [0]) ::
(oM 5 22, [0]) ::
(oM 6 23, []) ::
[])))
(.seq
(.seq
(.keep [0, 1, 5, 6]
(.reg (oM 24 6 ::
[])))
(.block 0
(.seq
(.reg (oD 35 (.bin .eql (.t 24) (cI 1)) ::
oM 34 35 ::
[]))
(.cond (.t 34)
(.keep [0, 5]
(.reg (oM 36 0 ::
oM 37 0 ::
oD 38 (.nilck (.t 37)) ::
oD 39 (.fieldAddr 2 (.t 38)) ::
oL 40 39 ::
oD 41 (.call false (.f 68) [(.t 36), (.t 40)]) ::
[])))
(.seq
(.reg (oD 43 (.bin .eql (.t 24) (cI 2)) ::
oM 42 43 ::
[]))
(.cond (.t 42)
(.keep [0, 5]
(.reg (oM 44 0 ::
oM 45 0 ::
oD 46 (.nilck (.t 45)) ::
oD 47 (.fieldAddr 3 (.t 46)) ::
oL 48 47 ::
oD 49 (.call false (.f 68) [(.t 44), (.t 48)]) ::
[])))
(.keep [0, 1, 5]
(.regD ((oM 25 0, []) ::
(oD 26 (.nilck (.t 25)), []) ::
(oD 27 (.fieldAddr 1 (.t 26)), []) ::
(oL 28 27, []) ::
(oM 29 1, [0, 0, 0, 0]) ::
(oD 30 (.call false (.f 73) [(.t 29)]), [1, 0, 0, 0]) ::
(oD 31 (.bin .add (.t 28) (.t 30)), []) ::
(oD 32 (.nilck (.t 25)), []) ::
(oD 33 (.fieldAddr 1 (.t 32)), []) ::
(oN (.store 1 (.t 33) (.t 31)), []) ::
[])))))))))
(.seq
(.keep [5]
(.reg (oM 50 5 ::
oM 4 50 ::
[])))
.ret)))))
def rd_cursor_Cursor_Row : List RD := [.tmp 4 true (some (.int .u64))]
theorem ok_cursor_Cursor_Row : fnOk Tryd.prog Tryd.f47 ir_cursor_Cursor_Row rd_cursor_Cursor_Row = true := by kernel_rfl
def S_cursor_Cursor_Row : List AV → List Obj → Option (Prop × AV × List Obj)
  | [.ptr 0 0, .imm (.int .i64) w], [.box [.imm (.int .u8) b, .int .i64 p, .int .i64 sh, .int .i64 od, .int .i64 e, .bool true]] => some ((0 ≤ p ∧ p ≤ b.length ∧ b.length ≤ 140737488355328, .imm (.int .u64) (curL w b p e), [.box [.imm (.int .u8) b, .int .i64 (curP w b p e), .int .i64 sh, .int .i64 od, .int .i64 (curE w b p sh od e), .bool true]]))
  | _, _ => none
theorem snd_cursor_Cursor_Row : SoundS Tryd.prog 47 (RwF S_cursor_Cursor_Row).sum := by
  refine rw_fn Tryd.func47 ok_cursor_Cursor_Row (env_cons (s := RoF S_cursor_Cursor_Err) snd_cursor_Cursor_Err (env_cons (s := RoF S_row_Get) snd_row_Get (env_cons (s := RwF S_cursor_Cursor_Fail) snd_cursor_Cursor_Fail (env_cons (s := RoF S_row_Size) snd_row_Size (env_nil _))))) fun args objs p v o e => ?_
  unfold S_cursor_Cursor_Row at e
  split at e
  · rename_i w b p sh od e
    cases e
    refine ⟨rfl, fun hw ho hp => ?_⟩
    change List Int at w
    change List Int at b
    have hz := sizeW_le w
    repeat' (intro t ht; first | (cases t <;> first | (cases ht; done) | ((try simp only [bn_s] at ht); (try simp only [nd_s] at ht))) | (refine ht ?_ ?_ <;> clear ht) | (refine ht.1 ?_ ?_ <;> clear ht) | (refine ht ?_; clear ht))
    all_goals first
      | exact True.intro
      | ((try simp only [nd_s, bn_s, mm_s] at *); omega)
      | (unfold curL curP curE; simp_all [failE]; done)
      | trace_state
  · cases e
def numV (w : Int) (b : List Int) (p e : Int) : Int := if 1 ≤ w ∧ w ≤ 8 then (curL [w] b p e).getD 0 0 else 0
def numP (w : Int) (b : List Int) (p e : Int) : Int := if 1 ≤ w ∧ w ≤ 8 then curP [w] b p e else p
def numE (w : Int) (b : List Int) (p sh od e : Int) : Int := if 1 ≤ w ∧ w ≤ 8 then curE [w] b p sh od e else failE e 10001
def ir_cursor_Cursor_Num : IR :=
(.seq
(.keep [0, 1]
(.reg (oD 4 (.mov (.c (.int .u64 0))) ::
[])))
(.seq
(.seq
(.keep [0, 1]
(.reg (oM 7 1 ::
oD 8 (.bin .lss (.t 7) (cI 1)) ::
oM 9 8 ::
oF 9 10 (.mov (.t 1)) ::
oF 9 11 (.bin .gtr (.t 10) (cI 8)) ::
oD 12 (.pick (.t 9) cT (.t 11)) ::
[])))
(.cond (.t 12)
(.seq
(.keep [0]
(.reg (oM 13 0 ::
oD 14 (.call false (.f 68) [(.t 13), (cI 10001)]) ::
[])))
(.seq
(.reg (oD 4 (.mov (.c (.int .u64 0))) ::
[]))
.ret))
.skip))
(.seq
(.keep [0, 1]
(.reg (oM 15 0 ::
oD 16 (.mkfn 47 [(.t 15)] []) ::
oM 5 16 ::
[])))
(.seq
(.seq
(.keep [1, 5]
(.reg (oM 17 5 ::
oM 18 1 ::
oD 19 (.sliceAll (.int .i64) 1 [(0, 1, (.t 18))]) ::
oD 20 (.call false (.t 17) [(.t 19)]) ::
oM 6 20 ::
[])))
(.seq
(.reg (oM 21 6 ::
oD 22 (.len (.t 21)) ::
oD 23 (.bin .gtr (.t 22) (cI 0)) ::
[]))
(.cond (.t 23)
(.seq
(.keep [6]
(.reg (oM 24 6 ::
oD 25 (.indexSl 1 (.t 24) (cI 0)) ::
oL 26 25 ::
oM 4 26 ::
[])))
.ret)
.skip)))
(.seq
(.keep []
(.reg (oD 4 (.mov (.c (.int .u64 0))) ::
[])))
.ret)))))
def rd_cursor_Cursor_Num : List RD := [.tmp 4 true none]
theorem ok_cursor_Cursor_Num : fnOk Tryd.prog Tryd.f42 ir_cursor_Cursor_Num rd_cursor_Cursor_Num = true := by kernel_rfl
def S_cursor_Cursor_Num : List AV → List Obj → Option (Prop × AV × List Obj)
  | [.ptr 0 0, .int .i64 w], [.box [.imm (.int .u8) b, .int .i64 p, .int .i64 sh, .int .i64 od, .int .i64 e, .bool true]] => some ((0 ≤ p ∧ p ≤ b.length ∧ b.length ≤ 140737488355328, .int .u64 (numV w b p e), [.box [.imm (.int .u8) b, .int .i64 (numP w b p e), .int .i64 sh, .int .i64 od, .int .i64 (numE w b p sh od e), .bool true]]))
  | _, _ => none
theorem snd_cursor_Cursor_Num : SoundS Tryd.prog 42 (RwF S_cursor_Cursor_Num).sum := by
  refine rw_fn Tryd.func42 ok_cursor_Cursor_Num (env_cons (s := RwF S_cursor_Cursor_Fail) snd_cursor_Cursor_Fail (env_cons (s := RwF S_cursor_Cursor_Row) snd_cursor_Cursor_Row (env_nil _))) fun args objs p v o e => ?_
  unfold S_cursor_Cursor_Num at e
  split at e
  · rename_i w b p sh od e
    cases e
    refine ⟨rfl, fun hw ho hp => ?_⟩
    change List Int at b
    repeat' (intro t ht; first | (cases t <;> first | (cases ht; done) | ((try simp only [bn_s] at ht); (try simp only [nd_s] at ht))) | (refine ht ?_ ?_ <;> clear ht) | (refine ht.1 ?_ ?_ <;> clear ht) | (refine ht ?_; clear ht))
    all_goals first
      | exact True.intro
      | exact hp
      | ((try simp only [nd_s, bn_s, mm_s] at *); omega)
      | (have hc : 1 ≤ w ∧ w ≤ 8 := by omega
         unfold numV numP numE
         rw [if_pos hc, if_pos hc, if_pos hc]
         first
           | exact ⟨rfl, rfl⟩
           | (have hl : curL [w] b p e = [] := List.eq_nil_of_length_eq_zero (by omega)
              refine ⟨?_, rfl⟩; rw [hl]; rfl))
      | (have hc : ¬ (1 ≤ w ∧ w ≤ 8) := by omega
         unfold numV numP numE
         rw [if_neg hc, if_neg hc, if_neg hc]
         exact ⟨rfl, rfl⟩)
      | trace_state
  · cases e
theorem failE_ne {e x : Int} (h : x ≠ 0) : failE e x ≠ 0 := by unfold failE; split <;> assumption
def takeE (n : Int) (b : List Int) (p sh e : Int) : Int := if n < 0 then failE e 10001 else if b.length - p < n then failE e sh else e
def takeL (n : Int) (b : List Int) (p sh e : Int) : List Int := if takeE n b p sh e = 0 then (b.take (p + n).toNat).drop p.toNat else []
def takeP (n : Int) (b : List Int) (p sh e : Int) : Int := if takeE n b p sh e = 0 then p + n else p
def ir_cursor_Cursor_take : IR :=
(.seq
(.keep [0, 1]
(.reg (oD 4 (.mov (.c (.imm (.int .u8) []))) ::
oD 5 (.mov cF) ::
[])))
(.seq
(.seq
(.reg (oM 7 1 ::
oD 8 (.bin .lss (.t 7) (cI 0)) ::
[]))
(.cond (.t 8)
(.reg (oM 9 0 ::
oD 10 (.call false (.f 68) [(.t 9), (cI 10001)]) ::
[]))
(.seq
(.keep [0, 1]
(.reg (oM 11 1 ::
oM 12 0 ::
oD 13 (.call false (.f 94) [(.t 12)]) ::
oD 14 (.bin .gtr (.t 11) (.t 13)) ::
oM 15 14 ::
oT 15 16 (.mov (.t 0)) ::
oT 15 17 (.call false (.f 69) [(.t 16)]) ::
oT 15 18 (.un .not (.t 17)) ::
oD 19 (.pick (.t 15) (.t 18) cF) ::
[])))
(.cond (.t 19)
(.keep [0, 1]
(.reg (oM 20 0 ::
oM 21 0 ::
oD 22 (.nilck (.t 21)) ::
oD 23 (.fieldAddr 2 (.t 22)) ::
oL 24 23 ::
oD 25 (.call false (.f 68) [(.t 20), (.t 24)]) ::
[])))
.skip))))
(.seq
(.seq
(.keep [0, 1]
(.reg (oM 26 0 ::
oD 27 (.call false (.f 43) [(.t 26)]) ::
oD 28 (.bin .neq (.t 27) (cI 0)) ::
[])))
(.cond (.t 28)
(.seq
(.reg (oD 4 (.mov (.c (.imm (.int .u8) []))) ::
oD 5 (.mov cF) ::
[]))
.ret)
.skip))
(.seq
(.keep [0, 1]
(.regD ((oM 29 0, []) ::
(oD 30 (.nilck (.t 29)), []) ::
(oD 31 (.fieldAddr 0 (.t 30)), []) ::
(oL 32 31, []) ::
(oM 33 0, [0, 0, 0, 0]) ::
(oD 34 (.nilck (.t 33)), [1, 0, 0, 0]) ::
(oD 35 (.fieldAddr 1 (.t 34)), [2, 0, 0, 0]) ::
(oL 36 35, [3, 0, 0, 0]) ::
(oM 37 0, [0, 0, 0, 0, 0, 0, 0, 0]) ::
(oD 38 (.nilck (.t 37)), [1, 0, 0, 0, 0, 0, 0, 0]) ::
(oD 39 (.fieldAddr 1 (.t 38)), [2, 0, 0, 0, 0, 0, 0, 0]) ::
(oL 40 39, [3, 0, 0, 0, 0, 0, 0, 0]) ::
(oM 41 1, [0, 0, 0, 0, 0, 0, 0, 0, 0, 0, 0, 0]) ::
(oD 42 (.bin .add (.t 40) (.t 41)), [5, 0, 0, 0, 0, 0, 0, 0]) ::
(oM 43 0, [0, 0, 0, 0, 0, 0, 0, 0, 0, 0, 0, 0, 0, 0]) ::
(oD 44 (.nilck (.t 43)), [1, 0, 0, 0, 0, 0, 0, 0, 0, 0, 0, 0, 0, 0]) ::
(oD 45 (.fieldAddr 1 (.t 44)), [2, 0, 0, 0, 0, 0, 0, 0, 0, 0, 0, 0, 0, 0]) ::
(oL 46 45, [3, 0, 0, 0, 0, 0, 0, 0, 0, 0, 0, 0, 0, 0]) ::
(oM 47 1, [0, 0, 0, 0, 0, 0, 0, 0, 0, 0, 0, 0, 0, 0, 0, 0, 0, 0]) ::
(oD 48 (.bin .add (.t 46) (.t 47)), [5, 0, 0, 0, 0, 0, 0, 0, 0, 0, 0, 0, 0, 0]) ::
(oD 49 (.slice 1 (.t 32) (some (.t 36)) (some (.t 42)) (some (.t 48))), []) ::
(oM 6 49, []) ::
[])))
(.seq
(.keep [0, 1, 6]
(.reg (oM 50 0 ::
oD 51 (.nilck (.t 50)) ::
oD 52 (.fieldAddr 1 (.t 51)) ::
oL 53 52 ::
oM 54 1 ::
oD 55 (.bin .add (.t 53) (.t 54)) ::
oD 56 (.nilck (.t 50)) ::
oD 57 (.fieldAddr 1 (.t 56)) ::
oN (.store 1 (.t 57) (.t 55)) ::
[])))
(.seq
(.keep [6]
(.reg (oM 58 6 ::
oM 4 58 ::
oD 5 (.mov cT) ::
[])))
.ret))))))
def rd_cursor_Cursor_take : List RD := [.tmp 4 true (some (.int .u8)), .tmp 5 true none]
theorem ok_cursor_Cursor_take : fnOk Tryd.prog Tryd.f71 ir_cursor_Cursor_take rd_cursor_Cursor_take = true := by kernel_rfl
def S_cursor_Cursor_take : List AV → List Obj → Option (Prop × AV × List Obj)
  | [.ptr 0 0, .int .i64 n], [.box [.imm (.int .u8) b, .int .i64 p, .int .i64 sh, .int .i64 od, .int .i64 e, .bool true]] => some ((0 ≤ p ∧ p ≤ b.length ∧ b.length ≤ 140737488355328 ∧ sh ≠ 0, .tup [.imm (.int .u8) (takeL n b p sh e), .bool (decide (takeE n b p sh e = 0))], [.box [.imm (.int .u8) b, .int .i64 (takeP n b p sh e), .int .i64 sh, .int .i64 od, .int .i64 (takeE n b p sh e), .bool true]]))
  | _, _ => none
theorem snd_cursor_Cursor_take : SoundS Tryd.prog 71 (RwF S_cursor_Cursor_take).sum := by
  refine rw_fn Tryd.func71 ok_cursor_Cursor_take (env_cons (s := RwF S_cursor_Cursor_Fail) snd_cursor_Cursor_Fail (env_cons (s := RoF S_cursor_Cursor_Left) snd_cursor_Cursor_Left (env_cons (s := RoF S_cursor_Cursor_none) snd_cursor_Cursor_none (env_cons (s := RoF S_cursor_Cursor_Err) snd_cursor_Cursor_Err (env_nil _))))) fun args objs p v o e => ?_
  unfold S_cursor_Cursor_take at e
  split at e
  · rename_i n b p sh od e
    cases e
    refine ⟨rfl, fun hw ho hp => ?_⟩
    change List Int at b
    have hf1 : failE e 10001 ≠ 0 := failE_ne (by decide)
    have hf2 : failE e sh ≠ 0 := failE_ne hp.2.2.2
    repeat' (intro t ht; first | (cases t <;> first | (cases ht; done) | ((try simp only [bn_s] at ht); (try simp only [nd_s] at ht))) | (refine ht ?_ ?_ <;> clear ht) | (refine ht.1 ?_ ?_ <;> clear ht) | (refine ht ?_; clear ht))
    all_goals first
      | exact True.intro
      | (exfalso; omega)
      | omega
      | ((try simp only [nd_s, bn_s, mm_s] at *); omega)
      | (first
           | (have hE : takeE n b p sh e = e := by unfold takeE; rw [if_neg (by assumption), if_neg (by assumption)]
              unfold takeL takeP; rw [hE]
              first
                | (have h0 : e = 0 := by assumption
                   rw [if_pos h0, if_pos h0, decide_eq_true h0]; exact ⟨rfl, rfl⟩)
                | (have h0 : ¬ e = 0 := by assumption
                   rw [if_neg h0, if_neg h0, decide_eq_false h0]; exact ⟨rfl, rfl⟩))
           | (have hE : takeE n b p sh e = failE e sh := by unfold takeE; rw [if_neg (by assumption), if_pos (by assumption)]
              unfold takeL takeP; rw [hE, if_neg hf2, if_neg hf2, decide_eq_false hf2]; exact ⟨rfl, rfl⟩)
           | (have hE : takeE n b p sh e = failE e 10001 := by unfold takeE; rw [if_pos (by assumption)]
              unfold takeL takeP; rw [hE, if_neg hf1, if_neg hf1, decide_eq_false hf1]; exact ⟨rfl, rfl⟩))
      | trace_state
  · cases e
def ir_cursor_Cursor_Bytes : IR :=
(.seq
(.keep [0, 1]
(.reg (oD 4 (.mov (.c (.imm (.int .u8) []))) ::
[])))
(.seq
(.keep [0, 1]
(.reg (oM 8 0 ::
oM 9 1 ::
oD 10 (.call false (.f 71) [(.t 8), (.t 9)]) ::
oM 7 10 ::
oD 11 (.extract (.t 7) 0) ::
oD 12 (.extract (.t 7) 1) ::
oM 5 11 ::
oM 6 12 ::
[])))
(.seq
(.keep [5]
(.reg (oM 13 5 ::
oD 14 (.call false (.f 67) [(.t 13)]) ::
oM 4 14 ::
[])))
.ret)))
def rd_cursor_Cursor_Bytes : List RD := [.tmp 4 true (some (.int .u8))]
theorem ok_cursor_Cursor_Bytes : fnOk Tryd.prog Tryd.f46 ir_cursor_Cursor_Bytes rd_cursor_Cursor_Bytes = true := by kernel_rfl
def S_cursor_Cursor_Bytes : List AV → List Obj → Option (Prop × AV × List Obj)
  | [.ptr 0 0, .int .i64 n], [.box [.imm (.int .u8) b, .int .i64 p, .int .i64 sh, .int .i64 od, .int .i64 e, .bool true]] => some ((0 ≤ p ∧ p ≤ b.length ∧ b.length ≤ 140737488355328 ∧ sh ≠ 0, .imm (.int .u8) (takeL n b p sh e), [.box [.imm (.int .u8) b, .int .i64 (takeP n b p sh e), .int .i64 sh, .int .i64 od, .int .i64 (takeE n b p sh e), .bool true]]))
  | _, _ => none
theorem snd_cursor_Cursor_Bytes : SoundS Tryd.prog 46 (RwF S_cursor_Cursor_Bytes).sum := by
  refine rw_fn Tryd.func46 ok_cursor_Cursor_Bytes (env_cons (s := RwF S_cursor_Cursor_take) snd_cursor_Cursor_take (env_cons (s := RoF S_bytes_Clone) snd_bytes_Clone (env_nil _))) fun args objs p v o e => ?_
  unfold S_cursor_Cursor_Bytes at e
  split at e
  · rename_i n b p sh od e
    cases e
    refine ⟨rfl, fun hw ho hp => ?_⟩
    change List Int at b
    have hlen : (takeL n b p sh e).length ≤ 140737488355328 := by
      unfold takeL; split
      · rw [List.length_drop, List.length_take]; omega
      · exact Nat.zero_le _
    repeat' (intro t ht; first | (cases t <;> first | (cases ht; done) | ((try simp only [bn_s] at ht); (try simp only [nd_s] at ht))) | (refine ht ?_ ?_ <;> clear ht) | (refine ht.1 ?_ ?_ <;> clear ht) | (refine ht ?_; clear ht))
    all_goals first
      | exact hp
      | exact hlen
      | exact ⟨rfl, rfl⟩
      | trace_state
  · cases e
end Go.Eng
