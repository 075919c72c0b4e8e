/- Parts of the proof: C1, B1, P4, P5, P6, W2, W3, P7. No condition. -/
import Derived.Test.YtcgkajpmcbnmkaaGreatDoorProg
import Derived.Test.YtcgkajpmcbnmkaaGreatDoorWA10
import Derived.KernelRfl
import Derived.Test.YtcgkajpmcbnmkaaGreatDoorWA11
import Derived.Test.YtcgkajpmcbnmkaaGreatDoorWA13
namespace Go.Eng
open Go.Proofs
set_option linter.unusedVariables false
set_option linter.unusedSimpArgs false
set_option maxRecDepth 100000
set_option maxHeartbeats 1000000
def ir_bytes_Clone : IR :=
(.seq
(.keep [0]
(.reg [oD 2 (.mov (.c (.imm (.int .u8) [])))]))
(.seq
(.seq
(.reg [oM 3 0,
oD 4 (.isnil false (.t 3))])
(.cond (.t 4)
(.seq
(.reg [oD 2 (.mov (.c (.imm (.int .u8) [])))])
.ret)
.skip))
(.seq
(.reg [oD 5 (.slice0 (.int .u8)),
oM 6 0,
oD 7 (.append (.int .u8) 1 (.t 5) (.t 6)),
oM 2 7])
.ret)))
def rd_bytes_Clone : List RD := [.tmp 2 true (some (.int .u8))]
theorem ok_bytes_Clone : fnOk Tryz.prog Tryz.f66 ir_bytes_Clone rd_bytes_Clone = true := by kernel_rfl
def S_bytes_Clone : List AV → List Obj → Option (Prop × AV)
  | [.imm (.int .u8) b], [] => some ((b.length ≤ 140737488355328, .imm (.int .u8) b))
  | _, _ => none
theorem snd_bytes_Clone : SoundS Tryz.prog 66 (RoF S_bytes_Clone).sum := by
  refine ro_fn Tryz.func66 ok_bytes_Clone (env_nil _) fun args objs p v e => ?_
  unfold S_bytes_Clone at e
  split at e
  · rename_i b
    cases e
    refine ⟨rfl, fun hw ho hp => ?_⟩
    change List Int at b
    repeat' (intro t ht; first | (cases t <;> first | (cases ht; done) | ((try simp only [bn_s] at ht); (try simp only [nd_s] at ht))) | (refine castG_go ht ?_; clear ht) | (refine ht ?_ ?_ <;> clear ht) | (refine ht.1 ?_ ?_ <;> clear ht) | (refine ht ?_; clear ht))
    all_goals first
      | (simp only [cast_rfl, List.length_nil, Nat.zero_add, Nat.mul_one]; omega)
      | exact ⟨rfl, rfl⟩
      | (have e : b = [] := by simp_all
         refine ⟨?_, rfl⟩; rw [e])
      | trace_state
  · cases e
def ir_cursor_Cursor_none : IR :=
(.seq
(.keep [0]
(.reg [oD 2 (.mov cF)]))
(.seq
(.keep [0]
(.reg [oM 3 0,
oD 4 (.eqp false (.t 3) (.c (.nilp))),
oM 5 4,
oF 5 6 (.mov (.t 0)),
oF 5 7 (.nilck (.t 6)),
oF 5 8 (.fieldAddr 5 (.t 7)),
oF 5 9 (.load none (.t 8)),
oF 5 10 (.un .not (.t 9)),
oP 11 5 cT (.t 10),
oM 2 11]))
.ret))
def rd_cursor_Cursor_none : List RD := [.tmp 2 true none]
theorem ok_cursor_Cursor_none : fnOk Tryz.prog Tryz.f78 ir_cursor_Cursor_none rd_cursor_Cursor_none = true := by kernel_rfl
def S_cursor_Cursor_none : List AV → List Obj → Option (Prop × AV)
  | [.ptr 0 0], [.box [.imm (.int .u8) b, .int .i64 p, .int .i64 sh, .int .i64 od, .int .i64 e, .bool true]] => some ((True, .bool false))
  | _, _ => none
theorem snd_cursor_Cursor_none : SoundS Tryz.prog 78 (RoF S_cursor_Cursor_none).sum := by
  refine ro_fn Tryz.func78 ok_cursor_Cursor_none (env_nil _) fun args objs p v e => ?_
  unfold S_cursor_Cursor_none at e
  split at e
  · rename_i b p sh od e
    cases e
    refine ⟨rfl, fun hw ho hp => ?_⟩
    change List Int at b
    repeat' (intro t ht; first | (cases t <;> first | (cases ht; done) | ((try simp only [bn_s] at ht); (try simp only [nd_s] at ht))) | (refine castG_go ht ?_; clear ht) | (refine ht ?_ ?_ <;> clear ht) | (refine ht.1 ?_ ?_ <;> clear ht) | (refine ht ?_; clear ht))
    all_goals exact ⟨rfl, rfl⟩
  · cases e
def ir_cursor_New : IR :=
(.seq
(.keep [0, 1, 2]
(.reg [oD 6 (.mov (.c (.nilp)))]))
(.seq
(.keep [0, 1, 2]
(.reg [oM 7 0,
oC 8 66 [.t 7],
oM 9 1,
oM 10 2,
oD 11 (.build [.imm (.int .u8) [], .int .i64 0, .int .i64 0, .int .i64 0, .int .i64 0, .kb false] [(0, 1, (.t 8)), (2, 1, (.t 9)), (3, 1, (.t 10)), (5, 1, cT)]),
oD 12 (.boxv (.t 11)),
oM 6 12]))
.ret))
def rd_cursor_New : List RD := [.tmp 6 true none]
theorem ok_cursor_New : fnOk Tryz.prog Tryz.f29 ir_cursor_New rd_cursor_New = true := by kernel_rfl
def S_cursor_New : List AV → List Obj → Option (Prop × AV × List Obj)
  | [.imm (.int .u8) b, .int .i64 sh, .int .i64 od], [] => some ((b.length ≤ 140737488355328, .ptr 0 0, [.box [.imm (.int .u8) b, .int .i64 0, .int .i64 sh, .int .i64 od, .int .i64 0, .bool true]]))
  | _, _ => none
theorem snd_cursor_New : SoundS Tryz.prog 29 (RwF S_cursor_New).sum := by
  refine rw_fn Tryz.func29 ok_cursor_New (env_cons (s := RoF S_bytes_Clone) snd_bytes_Clone (env_nil _)) fun args objs p v o e => ?_
  unfold S_cursor_New at e
  split at e
  · rename_i b sh od
    cases e
    refine ⟨rfl, fun hw ho hp => ?_⟩
    change List Int at b
    repeat' (intro t ht; first | (cases t <;> first | (cases ht; done) | ((try simp only [bn_s] at ht); (try simp only [nd_s] at ht))) | (refine castG_go ht ?_; clear ht) | (refine ht ?_ ?_ <;> clear ht) | (refine ht.1 ?_ ?_ <;> clear ht) | (refine ht ?_; clear ht))
    all_goals first
      | exact hp
      | exact ⟨rfl, rfl⟩
      | trace_state
  · cases e
def failE (e x : Int) : Int := if e = 0 then x else e
def ir_cursor_Cursor_Fail : IR :=
(.seq
(.keep [0, 1]
(.reg [oM 4 0,
oC 5 78 [.t 4],
oD 6 (.un .not (.t 5)),
oM 7 6,
oT 7 8 (.mov (.t 0)),
oT 7 9 (.nilck (.t 8)),
oT 7 10 (.fieldAddr 4 (.t 9)),
oT 7 11 (.load none (.t 10)),
oT 7 12 (.bin .eql (.t 11) (cI 0)),
oP 13 7 (.t 12) cF]))
(.cond (.t 13)
(.keep [0, 1]
(.reg [oM 14 0,
oM 15 1,
oD 16 (.nilck (.t 14)),
oA 17 4 16,
oS 1 17 15]))
.skip))
def rd_cursor_Cursor_Fail : List RD := []
theorem ok_cursor_Cursor_Fail : fnOk Tryz.prog Tryz.f83 ir_cursor_Cursor_Fail rd_cursor_Cursor_Fail = true := by kernel_rfl
def S_cursor_Cursor_Fail : List AV → List Obj → Option (Prop × AV × List Obj)
  | [.ptr 0 0, .int .i64 x], [.box [.imm (.int .u8) b, .int .i64 p, .int .i64 sh, .int .i64 od, .int .i64 e, .bool true]] => some ((True, .tup [], [.box [.imm (.int .u8) b, .int .i64 p, .int .i64 sh, .int .i64 od, .int .i64 (failE e x), .bool true]]))
  | _, _ => none
theorem snd_cursor_Cursor_Fail : SoundS Tryz.prog 83 (RwF S_cursor_Cursor_Fail).sum := by
  refine rw_fn Tryz.func83 ok_cursor_Cursor_Fail (env_cons (s := RoF S_cursor_Cursor_none) snd_cursor_Cursor_none (env_nil _)) fun args objs p v o e => ?_
  unfold S_cursor_Cursor_Fail at e
  split at e
  · rename_i x b p sh od e
    cases e
    refine ⟨rfl, fun hw ho hp => ?_⟩
    change List Int at b
    repeat' (intro t ht; first | (cases t <;> first | (cases ht; done) | ((try simp only [bn_s] at ht); (try simp only [nd_s] at ht))) | (refine castG_go ht ?_; clear ht) | (refine ht ?_ ?_ <;> clear ht) | (refine ht.1 ?_ ?_ <;> clear ht) | (refine ht ?_; clear ht))
    all_goals first
      | exact True.intro
      | (unfold failE; simp_all; done)
      | trace_state
  · cases e
def ir_cursor_Cursor_Err : IR :=
(.seq
(.keep [0]
(.reg [oD 2 (.mov (cI 0))]))
(.seq
(.seq
(.reg [oM 3 0,
oC 4 78 [.t 3]])
(.cond (.t 4)
(.seq
(.reg [oD 2 (.mov (cI 10001))])
.ret)
.skip))
(.seq
(.keep [0]
(.reg [oM 5 0,
oD 6 (.nilck (.t 5)),
oA 7 4 6,
oL 8 7,
oM 2 8]))
.ret)))
def rd_cursor_Cursor_Err : List RD := [.tmp 2 true none]
theorem ok_cursor_Cursor_Err : fnOk Tryz.prog Tryz.f31 ir_cursor_Cursor_Err rd_cursor_Cursor_Err = true := by kernel_rfl
def S_cursor_Cursor_Err : List AV → List Obj → Option (Prop × AV)
  | [.ptr 0 0], [.box [.imm (.int .u8) b, .int .i64 p, .int .i64 sh, .int .i64 od, .int .i64 e, .bool true]] => some ((True, .int .i64 e))
  | _, _ => none
theorem snd_cursor_Cursor_Err : SoundS Tryz.prog 31 (RoF S_cursor_Cursor_Err).sum := by
  refine ro_fn Tryz.func31 ok_cursor_Cursor_Err (env_cons (s := RoF S_cursor_Cursor_none) snd_cursor_Cursor_none (env_nil _)) fun args objs p v e => ?_
  unfold S_cursor_Cursor_Err at e
  split at e
  · rename_i b p sh od e
    cases e
    refine ⟨rfl, fun hw ho hp => ?_⟩
    change List Int at b
    repeat' (intro t ht; first | (cases t <;> first | (cases ht; done) | ((try simp only [bn_s] at ht); (try simp only [nd_s] at ht))) | (refine castG_go ht ?_; clear ht) | (refine ht ?_ ?_ <;> clear ht) | (refine ht.1 ?_ ?_ <;> clear ht) | (refine ht ?_; clear ht))
    all_goals first
      | exact True.intro
      | exact ⟨rfl, rfl⟩
      | trace_state
  · cases e
def ir_cursor_Cursor_Left : IR :=
(.seq
(.keep [0]
(.reg [oD 2 (.mov (cI 0))]))
(.seq
(.seq
(.reg [oM 3 0,
oC 4 78 [.t 3]])
(.cond (.t 4)
(.seq
(.reg [oD 2 (.mov (cI 0))])
.ret)
.skip))
(.seq
(.keep [0]
(.regD [(oM 5 0, []),
(oD 6 (.nilck (.t 5)), []),
(oA 7 0 6, []),
(oL 8 7, []),
(oE 9 8, []),
(oM 10 0, [0,0,0,0,0]),
(oD 11 (.nilck (.t 10)), [1,0,0,0,0]),
(oA 12 1 11, [2,0,0,0,0]),
(oL 13 12, [3,0,0,0,0]),
(oB 14 .sub (.t 9) (.t 13), []),
(oM 2 14, [])]))
.ret)))
def rd_cursor_Cursor_Left : List RD := [.tmp 2 true none]
theorem ok_cursor_Cursor_Left : fnOk Tryz.prog Tryz.f30 ir_cursor_Cursor_Left rd_cursor_Cursor_Left = true := by kernel_rfl
def S_cursor_Cursor_Left : List AV → List Obj → Option (Prop × AV)
  | [.ptr 0 0], [.box [.imm (.int .u8) b, .int .i64 p, .int .i64 sh, .int .i64 od, .int .i64 e, .bool true]] => some ((0 ≤ p ∧ p ≤ b.length, .int .i64 (b.length - p)))
  | _, _ => none
theorem snd_cursor_Cursor_Left : SoundS Tryz.prog 30 (RoF S_cursor_Cursor_Left).sum := by
  refine ro_fn Tryz.func30 ok_cursor_Cursor_Left (env_cons (s := RoF S_cursor_Cursor_none) snd_cursor_Cursor_none (env_nil _)) fun args objs p v e => ?_
  unfold S_cursor_Cursor_Left at e
  split at e
  · rename_i b p sh od e
    cases e
    refine ⟨rfl, fun hw ho hp => ?_⟩
    change List Int at b
    have hb : b.length ≤ maxLen := (ho _ (List.mem_cons_self ..) (.imm (.int .u8) b) (by simp)).2
    unfold maxLen at hb
    repeat' (intro t ht; first | (cases t <;> first | (cases ht; done) | ((try simp only [bn_s] at ht); (try simp only [nd_s] at ht))) | (refine castG_go ht ?_; clear ht) | (refine ht ?_ ?_ <;> clear ht) | (refine ht.1 ?_ ?_ <;> clear ht) | (refine ht ?_; clear ht))
    all_goals first
      | exact True.intro
      | ((try simp only [nd_s, bn_s, mm_s] at *); omega)
      | exact ⟨rfl, rfl⟩
      | trace_state
  · cases e
def curL (w b : List Int) (p e : Int) : List Int := if e = 0 then getL w (b.drop p.toNat) else []
def curP (w b : List Int) (p e : Int) : Int := if e = 0 then (if getK w (b.drop p.toNat) = 1 then p else if getK w (b.drop p.toNat) = 2 then p else p + sizeW w) else p
def curE (w b : List Int) (p sh od e : Int) : Int := if e = 0 then (if getK w (b.drop p.toNat) = 1 then sh else if getK w (b.drop p.toNat) = 2 then od else 0) else e
def ir_cursor_Cursor_Row : IR :=
(.seq
(.keep [0, 1]
(.reg [oD 4 (.mov (.c (.imm (.int .u64) [])))]))
(.seq
(.seq
(.reg [oM 7 0,
oC 8 31 [.t 7],
oB 9 .neq (.t 8) (cI 0)])
(.cond (.t 9)
(.seq
(.reg [oD 4 (.mov (.c (.imm (.int .u64) [])))])
.ret)
.skip))
(.seq
(.keep [0, 1]
(.regD [(oM 11 1, []),
(oM 12 0, [0]),
(oD 13 (.nilck (.t 12)), [1]),
(oA 14 0 13, [2]),
(oL 15 14, [3]),
(oM 16 0, [0,0,0,0,0]),
(oD 17 (.nilck (.t 16)), [1,0,0,0,0]),
(oA 18 1 17, [2,0,0,0,0]),
(oL 19 18, [3,0,0,0,0]),
(oD 20 (.slice 1 (.t 15) (some (.t 19)) none none), [8]),
(oC 21 117 [.t 11, .t 20], []),
(oM 10 21, []),
(oX 22 10 0, []),
(oX 23 10 1, [0]),
(oM 5 22, [0]),
(oM 6 23, [])]))
(.seq
(.seq
(.keep [0, 1, 5, 6]
(.reg [oM 24 6]))
(.block 0
(.seq
(.reg [oB 35 .eql (.t 24) (cI 1),
oM 34 35])
(.cond (.t 34)
(.keep [0, 5]
(.reg [oM 36 0,
oM 37 0,
oD 38 (.nilck (.t 37)),
oA 39 2 38,
oL 40 39,
oC 41 83 [.t 36, .t 40]]))
(.seq
(.reg [oB 43 .eql (.t 24) (cI 2),
oM 42 43])
(.cond (.t 42)
(.keep [0, 5]
(.reg [oM 44 0,
oM 45 0,
oD 46 (.nilck (.t 45)),
oA 47 3 46,
oL 48 47,
oC 49 83 [.t 44, .t 48]]))
(.keep [0, 1, 5]
(.regD [(oM 25 0, []),
(oD 26 (.nilck (.t 25)), []),
(oA 27 1 26, []),
(oL 28 27, []),
(oM 29 1, [0,0,0,0]),
(oC 30 77 [.t 29], [1,0,0,0]),
(oB 31 .add (.t 28) (.t 30), []),
(oD 32 (.nilck (.t 25)), []),
(oA 33 1 32, []),
(oS 1 33 31, [])]))))))))
(.seq
(.keep [5]
(.reg [oM 50 5,
oM 4 50]))
.ret)))))
def rd_cursor_Cursor_Row : List RD := [.tmp 4 true (some (.int .u64))]
theorem ok_cursor_Cursor_Row : fnOk Tryz.prog Tryz.f79 ir_cursor_Cursor_Row rd_cursor_Cursor_Row = true := by kernel_rfl
def S_cursor_Cursor_Row : List AV → List Obj → Option (Prop × AV × List Obj)
  | [.ptr 0 0, .imm (.int .i64) w], [.box [.imm (.int .u8) b, .int .i64 p, .int .i64 sh, .int .i64 od, .int .i64 e, .bool true]] => some ((0 ≤ p ∧ p ≤ b.length ∧ b.length ≤ 140737488355328, .imm (.int .u64) (curL w b p e), [.box [.imm (.int .u8) b, .int .i64 (curP w b p e), .int .i64 sh, .int .i64 od, .int .i64 (curE w b p sh od e), .bool true]]))
  | _, _ => none
theorem snd_cursor_Cursor_Row : SoundS Tryz.prog 79 (RwF S_cursor_Cursor_Row).sum := by
  refine rw_fn Tryz.func79 ok_cursor_Cursor_Row (env_cons (s := RoF S_cursor_Cursor_Err) snd_cursor_Cursor_Err (env_cons (s := RoF S_row_Get) snd_row_Get (env_cons (s := RwF S_cursor_Cursor_Fail) snd_cursor_Cursor_Fail (env_cons (s := RoF S_row_Size) snd_row_Size (env_nil _))))) fun args objs p v o e => ?_
  unfold S_cursor_Cursor_Row at e
  split at e
  · rename_i w b p sh od e
    cases e
    refine ⟨rfl, fun hw ho hp => ?_⟩
    change List Int at w
    change List Int at b
    have hz := sizeW_le w
    repeat' (intro t ht; first | (cases t <;> first | (cases ht; done) | ((try simp only [bn_s] at ht); (try simp only [nd_s] at ht))) | (refine castG_go ht ?_; clear ht) | (refine ht ?_ ?_ <;> clear ht) | (refine ht.1 ?_ ?_ <;> clear ht) | (refine ht ?_; clear ht))
    all_goals first
      | exact True.intro
      | ((try simp only [nd_s, bn_s, mm_s] at *); omega)
      | (unfold curL curP curE; simp_all [failE]; done)
      | trace_state
  · cases e
theorem failE_ne {e x : Int} (h : x ≠ 0) : failE e x ≠ 0 := by unfold failE; split <;> assumption
def takeE (n : Int) (b : List Int) (p sh e : Int) : Int := if n < 0 then failE e 10001 else if b.length - p < n then failE e sh else e
def takeL (n : Int) (b : List Int) (p sh e : Int) : List Int := if takeE n b p sh e = 0 then (b.take (p + n).toNat).drop p.toNat else []
def takeP (n : Int) (b : List Int) (p sh e : Int) : Int := if takeE n b p sh e = 0 then p + n else p
def ir_cursor_Cursor_take : IR :=
(.seq
(.keep [0, 1]
(.reg [oD 4 (.mov (.c (.imm (.int .u8) []))),
oD 5 (.mov cF)]))
(.seq
(.seq
(.reg [oM 7 1,
oB 8 .lss (.t 7) (cI 0)])
(.cond (.t 8)
(.reg [oM 9 0,
oC 10 83 [.t 9, (cI 10001)]])
(.seq
(.keep [0, 1]
(.reg [oM 11 1,
oM 12 0,
oC 13 30 [.t 12],
oB 14 .gtr (.t 11) (.t 13),
oM 15 14,
oT 15 16 (.mov (.t 0)),
oT 15 17 (.call false (.f 78) [(.t 16)]),
oT 15 18 (.un .not (.t 17)),
oP 19 15 (.t 18) cF]))
(.cond (.t 19)
(.keep [0, 1]
(.reg [oM 20 0,
oM 21 0,
oD 22 (.nilck (.t 21)),
oA 23 2 22,
oL 24 23,
oC 25 83 [.t 20, .t 24]]))
.skip))))
(.seq
(.seq
(.keep [0, 1]
(.reg [oM 26 0,
oC 27 31 [.t 26],
oB 28 .neq (.t 27) (cI 0)]))
(.cond (.t 28)
(.seq
(.reg [oD 4 (.mov (.c (.imm (.int .u8) []))),
oD 5 (.mov cF)])
.ret)
.skip))
(.seq
(.keep [0, 1]
(.regD [(oM 29 0, []),
(oD 30 (.nilck (.t 29)), []),
(oA 31 0 30, []),
(oL 32 31, []),
(oM 33 0, [0,0,0,0]),
(oD 34 (.nilck (.t 33)), [1,0,0,0]),
(oA 35 1 34, [2,0,0,0]),
(oL 36 35, [3,0,0,0]),
(oM 37 0, [0,0,0,0,0,0,0,0]),
(oD 38 (.nilck (.t 37)), [1,0,0,0,0,0,0,0]),
(oA 39 1 38, [2,0,0,0,0,0,0,0]),
(oL 40 39, [3,0,0,0,0,0,0,0]),
(oM 41 1, [0,0,0,0,0,0,0,0,0,0,0,0]),
(oB 42 .add (.t 40) (.t 41), [5,0,0,0,0,0,0,0]),
(oM 43 0, [0,0,0,0,0,0,0,0,0,0,0,0,0,0]),
(oD 44 (.nilck (.t 43)), [1,0,0,0,0,0,0,0,0,0,0,0,0,0]),
(oA 45 1 44, [2,0,0,0,0,0,0,0,0,0,0,0,0,0]),
(oL 46 45, [3,0,0,0,0,0,0,0,0,0,0,0,0,0]),
(oM 47 1, [0,0,0,0,0,0,0,0,0,0,0,0,0,0,0,0,0,0]),
(oB 48 .add (.t 46) (.t 47), [5,0,0,0,0,0,0,0,0,0,0,0,0,0]),
(oD 49 (.slice 1 (.t 32) (some (.t 36)) (some (.t 42)) (some (.t 48))), []),
(oM 6 49, [])]))
(.seq
(.keep [0, 1, 6]
(.reg [oM 50 0,
oD 51 (.nilck (.t 50)),
oA 52 1 51,
oL 53 52,
oM 54 1,
oB 55 .add (.t 53) (.t 54),
oD 56 (.nilck (.t 50)),
oA 57 1 56,
oS 1 57 55]))
(.seq
(.keep [6]
(.reg [oM 58 6,
oM 4 58,
oD 5 (.mov cT)]))
.ret))))))
def rd_cursor_Cursor_take : List RD := [.tmp 4 true (some (.int .u8)), .tmp 5 true none]
theorem ok_cursor_Cursor_take : fnOk Tryz.prog Tryz.f119 ir_cursor_Cursor_take rd_cursor_Cursor_take = true := by kernel_rfl
def S_cursor_Cursor_take : List AV → List Obj → Option (Prop × AV × List Obj)
  | [.ptr 0 0, .int .i64 n], [.box [.imm (.int .u8) b, .int .i64 p, .int .i64 sh, .int .i64 od, .int .i64 e, .bool true]] => some ((0 ≤ p ∧ p ≤ b.length ∧ b.length ≤ 140737488355328 ∧ sh ≠ 0, .tup [.imm (.int .u8) (takeL n b p sh e), .bool (decide (takeE n b p sh e = 0))], [.box [.imm (.int .u8) b, .int .i64 (takeP n b p sh e), .int .i64 sh, .int .i64 od, .int .i64 (takeE n b p sh e), .bool true]]))
  | _, _ => none
theorem snd_cursor_Cursor_take : SoundS Tryz.prog 119 (RwF S_cursor_Cursor_take).sum := by
  refine rw_fn Tryz.func119 ok_cursor_Cursor_take (env_cons (s := RwF S_cursor_Cursor_Fail) snd_cursor_Cursor_Fail (env_cons (s := RoF S_cursor_Cursor_Left) snd_cursor_Cursor_Left (env_cons (s := RoF S_cursor_Cursor_none) snd_cursor_Cursor_none (env_cons (s := RoF S_cursor_Cursor_Err) snd_cursor_Cursor_Err (env_nil _))))) fun args objs p v o e => ?_
  unfold S_cursor_Cursor_take at e
  split at e
  · rename_i n b p sh od e
    cases e
    refine ⟨rfl, fun hw ho hp => ?_⟩
    change List Int at b
    have hf1 : failE e 10001 ≠ 0 := failE_ne (by decide)
    have hf2 : failE e sh ≠ 0 := failE_ne hp.2.2.2
    repeat' (intro t ht; first | (cases t <;> first | (cases ht; done) | ((try simp only [bn_s] at ht); (try simp only [nd_s] at ht))) | (refine castG_go ht ?_; clear ht) | (refine ht ?_ ?_ <;> clear ht) | (refine ht.1 ?_ ?_ <;> clear ht) | (refine ht ?_; clear ht))
    all_goals first
      | exact True.intro
      | (exfalso; omega)
      | omega
      | ((try simp only [nd_s, bn_s, mm_s] at *); omega)
      | (first
           | (have hE : takeE n b p sh e = e := by unfold takeE; rw [if_neg (by assumption), if_neg (by assumption)]
              unfold takeL takeP; rw [hE]
              first
                | (have h0 : e = 0 := by assumption
                   rw [if_pos h0, if_pos h0, decide_eq_true h0]; exact ⟨rfl, rfl⟩)
                | (have h0 : ¬ e = 0 := by assumption
                   rw [if_neg h0, if_neg h0, decide_eq_false h0]; exact ⟨rfl, rfl⟩))
           | (have hE : takeE n b p sh e = failE e sh := by unfold takeE; rw [if_neg (by assumption), if_pos (by assumption)]
              unfold takeL takeP; rw [hE, if_neg hf2, if_neg hf2, decide_eq_false hf2]; exact ⟨rfl, rfl⟩)
           | (have hE : takeE n b p sh e = failE e 10001 := by unfold takeE; rw [if_pos (by assumption)]
              unfold takeL takeP; rw [hE, if_neg hf1, if_neg hf1, decide_eq_false hf1]; exact ⟨rfl, rfl⟩))
      | trace_state
  · cases e
def ir_cursor_Cursor_Bytes : IR :=
(.seq
(.keep [0, 1]
(.reg [oD 4 (.mov (.c (.imm (.int .u8) [])))]))
(.seq
(.keep [0, 1]
(.reg [oM 8 0,
oM 9 1,
oC 10 119 [.t 8, .t 9],
oM 7 10,
oX 11 7 0,
oX 12 7 1,
oM 5 11,
oM 6 12]))
(.seq
(.keep [5]
(.reg [oM 13 5,
oC 14 66 [.t 13],
oM 4 14]))
.ret)))
def rd_cursor_Cursor_Bytes : List RD := [.tmp 4 true (some (.int .u8))]
theorem ok_cursor_Cursor_Bytes : fnOk Tryz.prog Tryz.f81 ir_cursor_Cursor_Bytes rd_cursor_Cursor_Bytes = true := by kernel_rfl
def S_cursor_Cursor_Bytes : List AV → List Obj → Option (Prop × AV × List Obj)
  | [.ptr 0 0, .int .i64 n], [.box [.imm (.int .u8) b, .int .i64 p, .int .i64 sh, .int .i64 od, .int .i64 e, .bool true]] => some ((0 ≤ p ∧ p ≤ b.length ∧ b.length ≤ 140737488355328 ∧ sh ≠ 0, .imm (.int .u8) (takeL n b p sh e), [.box [.imm (.int .u8) b, .int .i64 (takeP n b p sh e), .int .i64 sh, .int .i64 od, .int .i64 (takeE n b p sh e), .bool true]]))
  | _, _ => none
theorem snd_cursor_Cursor_Bytes : SoundS Tryz.prog 81 (RwF S_cursor_Cursor_Bytes).sum := by
  refine rw_fn Tryz.func81 ok_cursor_Cursor_Bytes (env_cons (s := RwF S_cursor_Cursor_take) snd_cursor_Cursor_take (env_cons (s := RoF S_bytes_Clone) snd_bytes_Clone (env_nil _))) fun args objs p v o e => ?_
  unfold S_cursor_Cursor_Bytes at e
  split at e
  · rename_i n b p sh od e
    cases e
    refine ⟨rfl, fun hw ho hp => ?_⟩
    change List Int at b
    have hlen : (takeL n b p sh e).length ≤ 140737488355328 := by
      unfold takeL; split
      · rw [List.length_drop, List.length_take]; omega
      · exact Nat.zero_le _
    repeat' (intro t ht; first | (cases t <;> first | (cases ht; done) | ((try simp only [bn_s] at ht); (try simp only [nd_s] at ht))) | (refine castG_go ht ?_; clear ht) | (refine ht ?_ ?_ <;> clear ht) | (refine ht.1 ?_ ?_ <;> clear ht) | (refine ht ?_; clear ht))
    all_goals first
      | exact hp
      | exact hlen
      | exact ⟨rfl, rfl⟩
      | trace_state
  · cases e
end Go.Eng
namespace Go.Eng
open Go.Proofs
set_option linter.unusedVariables false
set_option linter.unusedSimpArgs false
set_option maxRecDepth 100000
set_option maxHeartbeats 1000000
def ir_buffer_Buffer_none : IR :=
(.seq
(.keep [0]
(.reg [oD 2 (.mov cF)]))
(.seq
(.keep [0]
(.reg [oM 3 0,
oD 4 (.eqp false (.t 3) (.c (.nilp))),
oM 5 4,
oF 5 6 (.mov (.t 0)),
oF 5 7 (.nilck (.t 6)),
oF 5 8 (.fieldAddr 2 (.t 7)),
oF 5 9 (.load none (.t 8)),
oF 5 10 (.eqn false (.t 9) (.c (.nilm))),
oP 11 5 cT (.t 10),
oM 2 11]))
.ret))
def rd_buffer_Buffer_none : List RD := [.tmp 2 true none]
theorem ok_buffer_Buffer_none : fnOk Tryz.prog Tryz.f65 ir_buffer_Buffer_none rd_buffer_Buffer_none = true := by kernel_rfl
def S_buffer_Buffer_none : List AV → List Obj → Option (Prop × AV)
  | [.ptr 0 0], [.box [.own 1, .int .i64 room, .mapv 2, .int .i64 e], .row false (.int .u8) l, .map sq (.int .i64) (.int .i64) h] => some ((True, .bool false))
  | _, _ => none
theorem snd_buffer_Buffer_none : SoundS Tryz.prog 65 (RoF S_buffer_Buffer_none).sum := by
  refine ro_fn Tryz.func65 ok_buffer_Buffer_none (env_nil _) fun args objs p v e => ?_
  unfold S_buffer_Buffer_none at e
  split at e
  · rename_i room e l sq h
    cases e
    refine ⟨rfl, fun hw ho hp => ?_⟩
    change List Int at l
    repeat' (intro t ht; first | (cases t <;> first | (cases ht; done) | ((try simp only [bn_s] at ht); (try simp only [nd_s] at ht))) | (refine castG_go ht ?_; clear ht) | (refine ht ?_ ?_ <;> clear ht) | (refine ht.1 ?_ ?_ <;> clear ht) | (refine ht ?_; clear ht))
    all_goals exact ⟨rfl, rfl⟩
  · cases e
def roomF (n : Int) : Int := if 1000000 < (if 0 > n then 0 else n) then 1000000 else (if 0 > n then 0 else n)
def ir_buffer_New : IR :=
(.seq
(.keep [0]
(.reg [oD 2 (.mov (.c (.nilp)))]))
(.seq
(.keep [0]
(.reg [oM 3 0,
oD 4 (.minmax true (.t 3) (cI 0)),
oD 5 (.minmax false (.t 4) (cI 1000000)),
oD 6 (.mkmap (.int .i64) (.int .i64)),
oD 7 (.build [.nils, .int .i64 0, .nilm, .int .i64 0] [(1, 1, (.t 5)), (2, 1, (.t 6))]),
oD 8 (.boxv (.t 7)),
oM 2 8]))
.ret))
def rd_buffer_New : List RD := [.tmp 2 true none]
theorem ok_buffer_New : fnOk Tryz.prog Tryz.f19 ir_buffer_New rd_buffer_New = true := by kernel_rfl
def N_buffer_New : List AV → List Obj → Option (Prop × AV × List Obj)
  | [.int .i64 n], [] => some (True, .ptr 0 0, [.box [.nils, .int .i64 (roomF n), .mapv 1, .int .i64 0], .map true (.int .i64) (.int .i64) ([])])
  | _, _ => none
def S_buffer_New : List AV → List Obj → Option (Prop × AV × List Obj)
  | [.int .i64 n], [] => some (True, .ptr 0 0, [.box [.own 2, .int .i64 (roomF n), .mapv 1, .int .i64 0], .map true (.int .i64) (.int .i64) ([]), .row false (.int .u8) ([])])
  | _, _ => none
theorem snd_buffer_New : SoundS Tryz.prog 19 (RwF S_buffer_New).sum := by
  have h0 : SoundS Tryz.prog 19 (RwF N_buffer_New).sum := by
    refine rw_fn Tryz.func19 ok_buffer_New (env_nil _) fun args objs p v o e => ?_
    unfold N_buffer_New at e
    split at e
    · rename_i n
      cases e
      refine ⟨rfl, fun hw ho hp => ?_⟩
      repeat' (intro t ht; first | (cases t <;> first | (cases ht; done) | ((try simp only [bn_s] at ht); (try simp only [nd_s] at ht))) | (refine castG_go ht ?_; clear ht) | (refine ht ?_ ?_ <;> clear ht) | (refine ht.1 ?_ ?_ <;> clear ht) | (refine ht ?_; clear ht))
      all_goals exact ⟨rfl, rfl⟩
    · cases e
  refine own_of_nils (t := .int .u8) h0 fun args objs p v o e => ?_
  unfold S_buffer_New at e
  split at e
  · rename_i n
    cases e
    exact ⟨0, [], [.int .i64 (roomF n), .mapv 1, .int .i64 0], _, rfl, rfl, rfl⟩
  · cases e
def ir_buffer_Buffer_Fail : IR :=
(.seq
(.keep [0, 1]
(.reg [oM 4 0,
oC 5 65 [.t 4],
oD 6 (.un .not (.t 5)),
oM 7 6,
oT 7 8 (.mov (.t 0)),
oT 7 9 (.nilck (.t 8)),
oT 7 10 (.fieldAddr 3 (.t 9)),
oT 7 11 (.load none (.t 10)),
oT 7 12 (.bin .eql (.t 11) (cI 0)),
oP 13 7 (.t 12) cF]))
(.cond (.t 13)
(.keep [0, 1]
(.reg [oM 14 0,
oM 15 1,
oD 16 (.nilck (.t 14)),
oA 17 3 16,
oS 1 17 15]))
.skip))
def rd_buffer_Buffer_Fail : List RD := []
theorem ok_buffer_Buffer_Fail : fnOk Tryz.prog Tryz.f49 ir_buffer_Buffer_Fail rd_buffer_Buffer_Fail = true := by kernel_rfl
def S_buffer_Buffer_Fail : List AV → List Obj → Option (Prop × AV × List Obj)
  | [.ptr 0 0, .int .i64 x], [.box [.own 1, .int .i64 room, .mapv 2, .int .i64 e], .row false (.int .u8) l, .map sq (.int .i64) (.int .i64) h] => some ((True, .tup [], [.box [.own 1, .int .i64 room, .mapv 2, .int .i64 (failE e x)], .row false (.int .u8) l, .map sq (.int .i64) (.int .i64) h]))
  | _, _ => none
theorem snd_buffer_Buffer_Fail : SoundS Tryz.prog 49 (RwF S_buffer_Buffer_Fail).sum := by
  refine rw_fn Tryz.func49 ok_buffer_Buffer_Fail (env_cons (s := RoF S_buffer_Buffer_none) snd_buffer_Buffer_none (env_nil _)) fun args objs p v o e => ?_
  unfold S_buffer_Buffer_Fail at e
  split at e
  · rename_i x room e l sq h
    cases e
    refine ⟨rfl, fun hw ho hp => ?_⟩
    change List Int at l
    repeat' (intro t ht; first | (cases t <;> first | (cases ht; done) | ((try simp only [bn_s] at ht); (try simp only [nd_s] at ht))) | (refine castG_go ht ?_; clear ht) | (refine ht ?_ ?_ <;> clear ht) | (refine ht.1 ?_ ?_ <;> clear ht) | (refine ht ?_; clear ht))
    all_goals first
      | exact True.intro
      | (unfold failE; simp_all; done)
      | trace_state
  · cases e
def bufOk (x l : List Int) (room e : Int) : Bool := decide (e = 0) && decide ((x.length : Int) ≤ room - l.length)
def bufB (x l : List Int) (room e : Int) : List Int := if bufOk x l room e = true then l ++ x else l
def bufE (x l : List Int) (room e : Int) : Int := if e = 0 then (if (x.length : Int) ≤ room - l.length then 0 else 10003) else e
def ir_buffer_Buffer_Bytes : IR :=
(.block 0
(.seq
(.keep [0, 1]
(.reg [oM 14 0,
oC 15 65 [.t 14],
oM 16 15,
oF 16 17 (.mov (.t 0)),
oF 16 18 (.nilck (.t 17)),
oF 16 19 (.fieldAddr 3 (.t 18)),
oF 16 20 (.load none (.t 19)),
oF 16 21 (.bin .neq (.t 20) (cI 0)),
oP 22 16 cT (.t 21),
oM 13 22]))
(.cond (.t 13)
.skip
(.seq
(.keep [0, 1]
(.regD [(oM 24 1, []),
(oE 25 24, []),
(oM 26 0, [0,0]),
(oD 27 (.nilck (.t 26)), [1,0]),
(oA 28 1 27, [2,0]),
(oL 29 28, [3,0]),
(oM 30 0, [0,0,0,0,0,0]),
(oD 31 (.nilck (.t 30)), [1,0,0,0,0,0]),
(oA 32 0 31, [2,0,0,0,0,0]),
(oL 33 32, [3,0,0,0,0,0]),
(oE 34 33, [4,0,0,0,0,0]),
(oB 35 .sub (.t 29) (.t 34), [9,0]),
(oB 36 .gtr (.t 25) (.t 35), []),
(oM 23 36, [])]))
(.cond (.t 23)
(.keep [0]
(.reg [oM 37 0,
oC 38 49 [.t 37, (cI 10003)]]))
(.keep [0, 1]
(.reg [oM 4 0,
oM 5 0,
oD 6 (.nilck (.t 5)),
oA 7 0 6,
oL 8 7,
oM 9 1,
oD 10 (.append (.int .u8) 1 (.t 8) (.t 9)),
oD 11 (.nilck (.t 4)),
oA 12 0 11,
oS 1 12 10])))))))
def rd_buffer_Buffer_Bytes : List RD := []
theorem ok_buffer_Buffer_Bytes : fnOk Tryz.prog Tryz.f51 ir_buffer_Buffer_Bytes rd_buffer_Buffer_Bytes = true := by kernel_rfl
def W_buffer_Buffer_Bytes : List AV → List Obj → Option (Prop × Res)
  | [.ptr 0 0, .imm (.int .u8) x], [.box [.own 1, .int .i64 room, .mapv 2, .int .i64 e], .row false (.int .u8) l, .map sq (.int .i64) (.int .i64) h] => some (0 ≤ room ∧ room ≤ 1000000 ∧ l.length ≤ 1000000 ∧ x.length ≤ 1000000, .br (bufOk x l room e) (.one (.tup []) [.box [.own 3, .int .i64 room, .mapv 2, .int .i64 e], .dead, .map sq (.int .i64) (.int .i64) h, .row false (.int .u8) (bufB x l room e)]) (.one (.tup []) [.box [.own 1, .int .i64 room, .mapv 2, .int .i64 (bufE x l room e)], .row false (.int .u8) l, .map sq (.int .i64) (.int .i64) h]))
  | _, _ => none
def S_buffer_Buffer_Bytes : List AV → List Obj → Option (Prop × AV × List Obj)
  | [.ptr 0 0, .imm (.int .u8) x], [.box [.own 1, .int .i64 room, .mapv 2, .int .i64 e], .row false (.int .u8) l, .map sq (.int .i64) (.int .i64) h] => some (0 ≤ room ∧ room ≤ 1000000 ∧ l.length ≤ 1000000 ∧ x.length ≤ 1000000, .tup [], [.box [.own 3, .int .i64 room, .mapv 2, .int .i64 (bufE x l room e)], .dead, .map sq (.int .i64) (.int .i64) h, .row false (.int .u8) (bufB x l room e)])
  | _, _ => none
theorem wnd_buffer_Buffer_Bytes : SoundS Tryz.prog 51 (RcF W_buffer_Buffer_Bytes).sum := by
  refine rc_fn Tryz.func51 ok_buffer_Buffer_Bytes (env_cons (s := RoF S_buffer_Buffer_none) snd_buffer_Buffer_none (env_cons (s := RwF S_buffer_Buffer_Fail) snd_buffer_Buffer_Fail (env_nil _))) fun args objs p v e => ?_
  unfold W_buffer_Buffer_Bytes at e
  split at e
  · rename_i x room e l sq h
    cases e
    change List Int at x
    change List Int at l
    refine ⟨rfl, fun hw ho hp => ?_⟩
    repeat' (intro t ht; first | (cases t <;> first | (cases ht; done) | ((try simp only [bn_s] at ht); (try simp only [nd_s] at ht))) | (refine castG_go ht ?_; clear ht) | (refine ht ?_ ?_ <;> clear ht) | (refine ht.1 ?_ ?_ <;> clear ht) | (refine ht ?_; clear ht))
    all_goals first
      | exact True.intro
      | ((try simp only [nd_s, bn_s, mm_s] at *); omega)
      | (simp only [cast_rfl]; omega)
      | (have hb : bufOk x l room e = true := by unfold bufOk; simp only [Bool.and_eq_true, decide_eq_true_eq]; omega
         have hbb : bufB x l room e = l ++ x := by unfold bufB; rw [hb]; rfl
         rw [pick_t hb, hbb]; exact ⟨rfl, rfl⟩)
      | (have hb : bufOk x l room e = false := by unfold bufOk; simp only [Bool.and_eq_false_iff, decide_eq_false_iff_not]; omega
         rw [pick_f hb]
         unfold bufE
         first
           | (rw [if_neg (by assumption)]; exact ⟨rfl, rfl⟩)
           | (have h0 : e = 0 := by assumption
              have h1 : ¬ (x.length : Int) ≤ room - l.length := by omega
              rw [if_pos h0, if_neg h1]
              refine ⟨rfl, ?_⟩; unfold failE; rw [if_pos h0]; rfl))
      | trace_state
  · cases e
theorem snd_buffer_Buffer_Bytes : SoundS Tryz.prog 51 (RwF S_buffer_Buffer_Bytes).sum := by
  refine rc_move wnd_buffer_Buffer_Bytes fun args objs p v o e => ?_
  unfold S_buffer_Buffer_Bytes at e
  split at e
  · rename_i x room e l sq h
    cases e
    cases hb : bufOk x l room e with
    | true =>
      have h1 : e = 0 := by unfold bufOk at hb; simp_all
      have h2 : (x.length : Int) ≤ room - l.length := by unfold bufOk at hb; simp_all
      refine ⟨_, _, rfl, pick_t hb, .inl ?_⟩
      unfold bufE; rw [if_pos h1, if_pos h2, h1]
    | false =>
      refine ⟨_, _, rfl, pick_f hb, .inr ⟨0, 1, [], [.int .i64 room, .mapv 2, .int .i64 (bufE x l room e)], .int .u8, l, rfl, rfl, ?_⟩⟩
      have hbb : bufB x l room e = l := by unfold bufB; rw [hb]; rfl
      rw [hbb]; rfl
  · cases e
theorem putA_len : ∀ (w xs b r : List Int), (∀ n ∈ w, n ≠ 0 ∧ n ≤ 8 ∧ -64 ≤ n) → putA w xs b = some r → (r.length : Int) = b.length + (w.map absI).sum
  | [], xs, b, r, _, h => by simp only [putA, Option.some.injEq] at h; subst h; simp
  | n :: w, xs, b, r, hw, h => by
    have hn := hw n (by simp)
    have hw' : ∀ n ∈ w, n ≠ 0 ∧ n ≤ 8 ∧ -64 ≤ n := fun m hm => hw m (by simp [hm])
    simp only [putA] at h
    split at h
    · have ih := putA_len w _ _ r hw' h
      have hl := bytesN_len (n := 0) (w := 0 - n) (by omega)
      rw [List.length_append] at ih
      rw [List.map_cons, List.sum_cons, absI_neg (by assumption)]; omega
    · cases xs with
      | nil => cases h
      | cons x ys =>
        simp only at h
        split at h
        · cases h
        · have ih := putA_len w _ _ r hw' h
          have hl := bytesN_len (n := x) (w := n) (by omega)
          rw [List.length_append] at ih
          rw [List.map_cons, List.sum_cons, absI_nn (by assumption)]; omega
theorem putB_len (w xs : List Int) : (putB w xs).length ≤ 4096 := by
  unfold putB putF
  split
  · rename_i h
    cases hp : putA w xs [] with
    | none => simp
    | some r =>
      have h1 := putA_len w xs [] r (rightF_t.1 h.1).2 hp
      have h2 := sizeW_le w
      unfold sizeW at h2; rw [if_pos h.1] at h2
      simp at h1 ⊢; omega
  · simp
def rowB (w xs l : List Int) (room e : Int) : List Int := if putK w xs = true then bufB (putB w xs) l room e else l
def rowE (w xs l : List Int) (room e : Int) : Int := if putK w xs = true then bufE (putB w xs) l room e else failE e 10001
def ir_buffer_Buffer_Row : IR :=
(.seq
(.keep [0, 1, 2]
(.reg [oM 9 1,
oM 10 2,
oC 11 92 [.t 9, .t 10],
oM 8 11,
oX 12 8 0,
oX 13 8 1,
oM 6 12,
oM 7 13]))
(.seq
(.seq
(.keep [0, 6, 7]
(.reg [oM 14 7,
oD 15 (.un .not (.t 14))]))
(.cond (.t 15)
(.seq
(.reg [oM 16 0,
oC 17 49 [.t 16, (cI 10001)]])
.ret)
.skip))
(.reg [oM 18 0,
oM 19 6,
oC 20 51 [.t 18, .t 19]])))
def rd_buffer_Buffer_Row : List RD := []
theorem ok_buffer_Buffer_Row : fnOk Tryz.prog Tryz.f47 ir_buffer_Buffer_Row rd_buffer_Buffer_Row = true := by kernel_rfl
def W_buffer_Buffer_Row : List AV → List Obj → Option (Prop × Res)
  | [.ptr 0 0, .imm (.int .i64) w, .imm (.int .u64) xs], [.box [.own 1, .int .i64 room, .mapv 2, .int .i64 e], .row false (.int .u8) l, .map sq (.int .i64) (.int .i64) h] => some (0 ≤ room ∧ room ≤ 1000000 ∧ l.length ≤ 1000000, .br (putK w xs) (.one (.tup []) [.box [.own 3, .int .i64 room, .mapv 2, .int .i64 (bufE (putB w xs) l room e)], .dead, .map sq (.int .i64) (.int .i64) h, .row false (.int .u8) (bufB (putB w xs) l room e)]) (.one (.tup []) [.box [.own 1, .int .i64 room, .mapv 2, .int .i64 (failE e 10001)], .row false (.int .u8) l, .map sq (.int .i64) (.int .i64) h]))
  | _, _ => none
def S_buffer_Buffer_Row : List AV → List Obj → Option (Prop × AV × List Obj)
  | [.ptr 0 0, .imm (.int .i64) w, .imm (.int .u64) xs], [.box [.own 1, .int .i64 room, .mapv 2, .int .i64 e], .row false (.int .u8) l, .map sq (.int .i64) (.int .i64) h] => some (0 ≤ room ∧ room ≤ 1000000 ∧ l.length ≤ 1000000, .tup [], [.box [.own 3, .int .i64 room, .mapv 2, .int .i64 (rowE w xs l room e)], .dead, .map sq (.int .i64) (.int .i64) h, .row false (.int .u8) (rowB w xs l room e)])
  | _, _ => none
theorem wnd_buffer_Buffer_Row : SoundS Tryz.prog 47 (RcF W_buffer_Buffer_Row).sum := by
  refine rc_fn Tryz.func47 ok_buffer_Buffer_Row (env_cons (s := RoF S_row_Put) snd_row_Put (env_cons (s := RwF S_buffer_Buffer_Fail) snd_buffer_Buffer_Fail (env_cons (s := RwF S_buffer_Buffer_Bytes) snd_buffer_Buffer_Bytes (env_nil _)))) fun args objs p v e => ?_
  unfold W_buffer_Buffer_Row at e
  split at e
  · rename_i w xs room e l sq h
    cases e
    refine ⟨rfl, fun hw ho hp => ?_⟩
    have hz := putB_len w xs
    repeat' (intro t ht; first | (cases t <;> first | (cases ht; done) | ((try simp only [bn_s] at ht); (try simp only [nd_s] at ht))) | (refine castG_go ht ?_; clear ht) | (refine ht ?_ ?_ <;> clear ht) | (refine ht.1 ?_ ?_ <;> clear ht) | (refine ht ?_; clear ht))
    all_goals first
      | exact True.intro
      | exact ⟨hp.1, hp.2.1, hp.2.2, by omega⟩
      | (rw [pick_t (by assumption)]; exact ⟨rfl, rfl⟩)
      | (rw [pick_f (by assumption)]; exact ⟨rfl, rfl⟩)
      | trace_state
  · cases e
theorem snd_buffer_Buffer_Row : SoundS Tryz.prog 47 (RwF S_buffer_Buffer_Row).sum := by
  refine rc_move wnd_buffer_Buffer_Row fun args objs p v o e => ?_
  unfold S_buffer_Buffer_Row at e
  split at e
  · rename_i w xs room e l sq h
    cases e
    cases hb : putK w xs with
    | true =>
      refine ⟨_, _, rfl, pick_t hb, .inl ?_⟩
      unfold rowE rowB; rw [if_pos hb, if_pos hb]
    | false =>
      refine ⟨_, _, rfl, pick_f hb, .inr ⟨0, 1, [], [.int .i64 room, .mapv 2, .int .i64 (failE e 10001)], .int .u8, l, rfl, rfl, ?_⟩⟩
      unfold rowE rowB; rw [hb]; rfl
  · cases e
def doneB (h : List (Int × Int)) (e : Int) : Bool := decide (e = 0) && decide (h.length = 0)
def doneL (l : List Int) (h : List (Int × Int)) (e : Int) : List Int := if doneB h e = true then l else []
def doneE (h : List (Int × Int)) (e : Int) : Int := if e = 0 then (if h.length = 0 then 0 else 10001) else e
def ir_buffer_Buffer_Done : IR :=
(.seq
(.keep [0]
(.reg [oD 2 (.mov (.c (.imm (.int .u8) []))),
oD 3 (.mov (cI 0))]))
(.seq
(.block 0
(.seq
(.reg [oM 5 0,
oC 6 65 [.t 5],
oM 4 6])
(.cond (.t 4)
(.seq
(.reg [oD 2 (.mov (.c (.imm (.int .u8) []))),
oD 3 (.mov (cI 10001))])
.ret)
(.seq
(.keep [0]
(.reg [oM 8 0,
oD 9 (.nilck (.t 8)),
oA 10 3 9,
oL 11 10,
oB 12 .neq (.t 11) (cI 0),
oM 7 12]))
(.cond (.t 7)
(.seq
(.keep [0]
(.regD [(oM 13 0, []),
(oD 14 (.nilck (.t 13)), []),
(oA 15 3 14, []),
(oL 16 15, []),
(oD 2 (.mov (.c (.imm (.int .u8) []))), [0,0,0,0]),
(oM 3 16, [])]))
.ret)
(.seq
(.keep [0]
(.reg [oM 18 0,
oD 19 (.nilck (.t 18)),
oA 20 2 19,
oL 21 20,
oD 22 (.mlen (.t 21)),
oB 23 .gtr (.t 22) (cI 0),
oM 17 23]))
(.cond (.t 17)
(.seq
(.keep []
(.reg [oD 2 (.mov (.c (.imm (.int .u8) []))),
oD 3 (.mov (cI 10001))]))
.ret)
.skip)))))))
(.seq
(.keep [0]
(.reg [oM 24 0,
oD 25 (.nilck (.t 24)),
oA 26 0 25,
oL 27 26,
oC 28 66 [.t 27],
oM 2 28,
oD 3 (.mov (cI 0))]))
.ret)))
def rd_buffer_Buffer_Done : List RD := [.tmp 2 true (some (.int .u8)), .tmp 3 true none]
theorem ok_buffer_Buffer_Done : fnOk Tryz.prog Tryz.f22 ir_buffer_Buffer_Done rd_buffer_Buffer_Done = true := by kernel_rfl
def W_buffer_Buffer_Done : List AV → List Obj → Option (Prop × Res)
  | [.ptr 0 0], [.box [.own 1, .int .i64 room, .mapv 2, .int .i64 e], .row false (.int .u8) l, .map sq (.int .i64) (.int .i64) h] => some (l.length ≤ 140737488355328 ∧ h.length ≤ 140737488355328, .br (doneB h e) (.one (.tup [.imm (.int .u8) l, .int .i64 0]) [.box [.own 1, .int .i64 room, .mapv 2, .int .i64 e], .row true (.int .u8) l, .map sq (.int .i64) (.int .i64) h]) (.one (.tup [.imm (.int .u8) [], .int .i64 (doneE h e)]) [.box [.own 1, .int .i64 room, .mapv 2, .int .i64 e], .row false (.int .u8) l, .map sq (.int .i64) (.int .i64) h]))
  | _, _ => none
def S_buffer_Buffer_Done : List AV → List Obj → Option (Prop × AV × List Obj)
  | [.ptr 0 0], [.box [.own 1, .int .i64 room, .mapv 2, .int .i64 e], .row false (.int .u8) l, .map sq (.int .i64) (.int .i64) h] => some (l.length ≤ 140737488355328 ∧ h.length ≤ 140737488355328, .tup [.imm (.int .u8) (doneL l h e), .int .i64 (doneE h e)], [.box [.own 1, .int .i64 room, .mapv 2, .int .i64 e], .dead, .map sq (.int .i64) (.int .i64) h])
  | _, _ => none
theorem wnd_buffer_Buffer_Done : SoundS Tryz.prog 22 (RcF W_buffer_Buffer_Done).sum := by
  refine rc_fn Tryz.func22 ok_buffer_Buffer_Done (env_cons (s := RoF S_buffer_Buffer_none) snd_buffer_Buffer_none (env_cons (s := RoF S_bytes_Clone) snd_bytes_Clone (env_nil _))) fun args objs p v e => ?_
  unfold W_buffer_Buffer_Done at e
  split at e
  · rename_i room e l sq h
    cases e
    change List (Int × Int) at h
    refine ⟨rfl, fun hw ho hp => ?_⟩
    repeat' (intro t ht; first | (cases t <;> first | (cases ht; done) | ((try simp only [bn_s] at ht); (try simp only [nd_s] at ht))) | (refine castG_go ht ?_; clear ht) | (refine ht ?_ ?_ <;> clear ht) | (refine ht.1 ?_ ?_ <;> clear ht) | (refine ht ?_; clear ht))
    all_goals first
      | exact True.intro
      | exact hp.1
      | exact hp.2
      | (have hb : doneB h e = true := by unfold doneB; simp only [Bool.and_eq_true, decide_eq_true_eq]; omega
         rw [pick_t hb]; exact ⟨rfl, rfl⟩)
      | (have hb : doneB h e = false := by unfold doneB; simp only [Bool.and_eq_false_iff, decide_eq_false_iff_not]; omega
         rw [pick_f hb]
         unfold doneE
         first
           | (rw [if_neg (by assumption)]; exact ⟨rfl, rfl⟩)
           | (have h0 : e = 0 := by assumption
              have h1 : ¬ h.length = 0 := by omega
              rw [if_pos h0, if_neg h1]; exact ⟨rfl, rfl⟩))
      | trace_state
  · cases e
theorem snd_buffer_Buffer_Done : SoundS Tryz.prog 22 (RwF S_buffer_Buffer_Done).sum := by
  refine rc_kill wnd_buffer_Buffer_Done fun args objs p v o e => ?_
  unfold S_buffer_Buffer_Done at e
  split at e
  · rename_i room e l sq h
    cases e
    change List (Int × Int) at h
    cases hb : doneB h e with
    | true =>
      have h1 : e = 0 := by unfold doneB at hb; simp_all
      have h2 : h.length = 0 := by unfold doneB at hb; simp_all
      refine ⟨_, [.box [.own 1, .int .i64 room, .mapv 2, .int .i64 e], .row true (.int .u8) l, .map sq (.int .i64) (.int .i64) h], 1, rfl, ?_, by simp, rfl⟩
      rw [pick_t hb]; unfold doneL doneE; rw [if_pos hb, if_pos h1, if_pos h2]; rfl
    | false =>
      refine ⟨_, [.box [.own 1, .int .i64 room, .mapv 2, .int .i64 e], .row false (.int .u8) l, .map sq (.int .i64) (.int .i64) h], 1, rfl, ?_, by simp, rfl⟩
      rw [pick_f hb]; unfold doneL; rw [hb]; rfl
  · cases e
end Go.Eng
namespace Go.Eng
open Go.Proofs
set_option linter.unusedVariables false
set_option linter.unusedSimpArgs false
set_option maxRecDepth 100000
set_option maxHeartbeats 1000000
end Go.Eng
namespace Go.Eng
open Go.Proofs
set_option linter.unusedVariables false
set_option linter.unusedSimpArgs false
set_option maxRecDepth 100000
set_option maxHeartbeats 1000000
theorem getA_len : ∀ (w b o : List Int), ((getA w b o).2 = 0 ∨ (getA w b o).2 = 1 ∨ (getA w b o).2 = 2) ∧ ((getA w b o).2 = 0 → (w.map absI).sum ≤ b.length)
  | [], b, o => ⟨.inl rfl, fun _ => by simp⟩
  | n :: r, b, o => by
    have ha := absI_le (n := n)
    have hd : (b.drop (absI n).toNat).length = b.length - (absI n).toNat := List.length_drop
    simp only [getA]
    rw [List.map_cons, List.sum_cons]
    split
    · exact ⟨.inr (.inl rfl), fun h => by cases h⟩
    · split
      · have ih := getA_len r (b.drop (absI n).toNat) (o ++ [numL (b.take (absI n).toNat)])
        exact ⟨ih.1, fun h => by have := ih.2 h; omega⟩
      · split
        · have ih := getA_len r (b.drop (absI n).toNat) o
          exact ⟨ih.1, fun h => by have := ih.2 h; omega⟩
        · exact ⟨.inr (.inr rfl), fun h => by cases h⟩
theorem getK_len (w b : List Int) : (getK w b = 0 ∨ getK w b = 1 ∨ getK w b = 2) ∧ (getK w b = 0 → sizeW w ≤ b.length) := by
  unfold getK getF sizeW
  split
  · exact getA_len w b []
  · exact ⟨.inr (.inr rfl), fun h => by cases h⟩
theorem curP_le {w b : List Int} {p e : Int} (h0 : 0 ≤ p) (h1 : p ≤ b.length) : 0 ≤ curP w b p e ∧ curP w b p e ≤ b.length := by
  have hk := getK_len w (b.drop p.toNat)
  have hz := sizeW_le w
  have hd : (b.drop p.toNat).length = b.length - p.toNat := List.length_drop
  unfold curP
  by_cases he : e = 0
  · rw [if_pos he]
    by_cases h2 : getK w (b.drop p.toNat) = 1
    · rw [if_pos h2]; exact ⟨h0, h1⟩
    · rw [if_neg h2]
      by_cases h3 : getK w (b.drop p.toNat) = 2
      · rw [if_pos h3]; exact ⟨h0, h1⟩
      · rw [if_neg h3]
        have := hk.2 (by omega)
        omega
  · rw [if_neg he]; exact ⟨h0, h1⟩
theorem takeP_le {n : Int} {b : List Int} {p sh e : Int} (h0 : 0 ≤ p) (h1 : p ≤ b.length) (hs : sh ≠ 0) : 0 ≤ takeP n b p sh e ∧ takeP n b p sh e ≤ b.length := by
  have h2 : failE e 10001 ≠ 0 := failE_ne (by decide)
  have h3 : failE e sh ≠ 0 := failE_ne hs
  unfold takeP
  by_cases h : takeE n b p sh e = 0
  · rw [if_pos h]
    unfold takeE at h
    by_cases hn : n < 0
    · rw [if_pos hn] at h; exact absurd h h2
    · rw [if_neg hn] at h
      by_cases hl : (b.length : Int) - p < n
      · rw [if_pos hl] at h; exact absurd h h3
      · omega
  · rw [if_neg h]; exact ⟨h0, h1⟩
theorem ctR_le {s : List Int} {c : Int} : (ctR s c).length ≤ s.length := by
  unfold ctR; split
  · rw [List.length_drop]; omega
  · simp
theorem takeL_le {n : Int} {b : List Int} {p sh e : Int} : (takeL n b p sh e).length ≤ b.length := by
  unfold takeL; split
  · rw [List.length_drop, List.length_take]; omega
  · simp
def c8 (ys : List Int) (j : Nat) : Int := if j < ys.length then ys.getD j 0 else 0
end Go.Eng
namespace Go.Eng
open Go.Proofs
set_option linter.unusedVariables false
set_option linter.unusedSimpArgs false
set_option maxRecDepth 100000
set_option maxHeartbeats 1000000
theorem idxA_ne {c : Int} {b : List Int} {i : Nat} (h : i < b.length) (hk : ¬ b.getD i 0 = c) : idxA c (b.drop i) i = idxA c (b.drop (i + 1)) ((i + 1 : Nat) : Int) := by
  rw [drop_step h 0]; exact if_neg hk
theorem idxA_at {c : Int} {b : List Int} {i : Nat} (h : i < b.length) (hk : b.getD i 0 = c) : idxA c (b.drop i) i = i := by
  rw [drop_step h 0]; exact if_pos hk
theorem idxA_end {c : Int} {b : List Int} {i : Nat} (h : b.length ≤ i) : idxA c (b.drop i) i = -1 := by
  rw [List.drop_of_length_le h]; rfl
def zi (b : List Int) : Nat := if 0 ≤ idxA 0 b 0 then (idxA 0 b 0).toNat else b.length
theorem zi_le (b : List Int) : zi b ≤ b.length := by
  have := idxA_le (c := 0) b 0 (Int.le_refl _)
  unfold zi; split <;> omega
theorem zi_at {b : List Int} {i : Nat} (h : i < b.length) (he : idxA 0 b 0 = idxA 0 (b.drop i) i) (hk : b.getD i 0 = 0) : zi b = i := by
  unfold zi; rw [he, idxA_at h hk, if_pos (by omega)]; omega
theorem zi_end {b : List Int} {i : Nat} (h : b.length ≤ i) (he : idxA 0 b 0 = idxA 0 (b.drop i) i) : zi b = b.length := by
  unfold zi; rw [he, idxA_end h]; rfl
end Go.Eng
namespace Go.Eng
open Go.Proofs
set_option linter.unusedVariables false
set_option linter.unusedSimpArgs false
set_option maxRecDepth 100000
set_option maxHeartbeats 1000000
def tkOk (n : Int) (s : List Int) : Bool := ctK s 0 && txF n (ctB s 0) && decide (trimL (trimR (ctR s 0) 0) 0 = [])
abbrev TS := List (List Int) × Int × Int
def tkS (b : List Int) (sh : Int) (st : TS) (n : Int) : TS := (st.1 ++ [ctB (takeL n b st.2.1 sh st.2.2) 0], takeP n b st.2.1 sh st.2.2, if tkOk n (takeL n b st.2.1 sh st.2.2) = true then takeE n b st.2.1 sh st.2.2 else failE (takeE n b st.2.1 sh st.2.2) 269)
theorem tkOk_t {n : Int} {s : List Int} (h1 : ctK s 0 = true) (h2 : txF n (ctB s 0) = true) (h3 : ¬ (0 : Int) < (trimL (trimR (ctR s 0) 0) 0).length) : tkOk n s = true := by
  unfold tkOk; rw [h1, h2]; simp only [Bool.true_and, decide_eq_true_eq]; exact List.eq_nil_of_length_eq_zero (by omega)
theorem tkOk_1 {n : Int} {s : List Int} (h1 : ctK s 0 = false) : tkOk n s = false := by unfold tkOk; rw [h1]; rfl
theorem tkOk_2 {n : Int} {s : List Int} (h1 : txF n (ctB s 0) = false) : tkOk n s = false := by unfold tkOk; rw [h1, Bool.and_false]; rfl
theorem tkOk_3 {n : Int} {s : List Int} (h1 : (0 : Int) < (trimL (trimR (ctR s 0) 0) 0).length) : tkOk n s = false := by
  unfold tkOk; rw [decide_eq_false (fun h => by rw [h] at h1; simp at h1), Bool.and_false]
theorem tkS_t {b : List Int} {sh n : Int} {s : TS} (h : tkOk n (takeL n b s.2.1 sh s.2.2) = true) : tkS b sh s n = (s.1 ++ [ctB (takeL n b s.2.1 sh s.2.2) 0], takeP n b s.2.1 sh s.2.2, takeE n b s.2.1 sh s.2.2) := by
  unfold tkS; rw [if_pos h]
theorem tkS_f {b : List Int} {sh n : Int} {s : TS} (h : tkOk n (takeL n b s.2.1 sh s.2.2) = false) : tkS b sh s n = (s.1 ++ [ctB (takeL n b s.2.1 sh s.2.2) 0], takeP n b s.2.1 sh s.2.2, failE (takeE n b s.2.1 sh s.2.2) 269) := by
  unfold tkS; rw [if_neg (by rw [h]; decide)]
def tkF (w b : List Int) (p sh od e : Int) : TS := zs.foldl (tkS b sh) ([], curP w b p e, curE w b p sh od e)
theorem fold_step {α : Type} {f : α → Int → α} {l : List Int} {i : Nat} {s : α} (h : i < l.length) : (l.drop i).foldl f s = (l.drop (i + 1)).foldl f (f s (l.getD i 0)) := by
  rw [drop_step h 0]; rfl
def ir_tally_shape_take : IR :=
(.seq
(.keep [0, 1]
(.reg [oD 2 (.boxv (.t 0)),
oD 4 (.box [.nils, .nils, .nils, .nils, .nils, .nils, .nils, .nils, .nils, .nils])]))
(.seq
(.keep [1, 2, 4]
(.reg [oM 10 1,
oA 11 0 2,
oL 12 11,
oC 13 79 [.t 10, .t 12],
oA 14 0 4,
oS 1 14 13]))
(.seq
(.seq
(.reg [oA 15 2 2,
oL 16 15,
oD 17 (.un .not (.t 16))])
(.cond (.t 17)
(.seq
(.keep [4]
(.reg [oK 18 10 4,
oS 10 4 18]))
.ret)
.skip))
(.seq
(.seq
(.keep [1, 4]
(.reg [oC 19 48 [],
oD 20 (.mov (cI 0))]))
(.block 0
(.loop
(.seq
(.keep [1, 4, 19, 20]
(.reg [oB 21 .lss (.t 20) (cI 5)]))
(.seq
(.cond (.t 21)
.skip
(.exit 0))
(.seq
(.block 1
(.seq
(.reg [oD 22 (.pickI .i64 5 (.t 19) (.t 20)),
oM 6 22])
(.seq
(.keep [1, 4, 6, 19, 20]
(.reg [oM 24 1,
oM 25 6,
oC 26 81 [.t 24, .t 25],
oD 27 (.sliceAll (.int .u8) 1 [(0, 1, (.c (.int .u8 0)))]),
oC 28 80 [.t 26, .t 27],
oM 23 28,
oX 29 23 0,
oX 30 23 1,
oX 31 23 2,
oM 7 29,
oM 8 30,
oM 9 31]))
(.seq
(.seq
(.keep [1, 4, 6, 7, 8, 9, 19, 20]
(.reg [oM 32 9,
oD 33 (.un .not (.t 32)),
oM 34 33,
oF 34 35 (.mov (.t 7)),
oF 34 36 (.b2s (.t 35)),
oF 34 37 (.mov (.t 6)),
oF 34 38 (.call false (.f 50) [(.t 36), (.t 37)]),
oF 34 39 (.un .not (.t 38)),
oP 40 34 cT (.t 39),
oM 41 40,
oF 41 42 (.mov (.t 8)),
oF 41 43 (.call false (.f 82) [(.t 42), (.c (.str [0]))]),
oF 41 44 (.len (.t 43)),
oF 41 45 (.bin .gtr (.t 44) (cI 0)),
oP 46 41 cT (.t 45)]))
(.cond (.t 46)
(.keep [1, 4, 7, 19, 20]
(.reg [oM 47 1,
oC 48 83 [.t 47, (cI 269)]]))
.skip))
(.keep [1, 4, 7, 19, 20]
(.reg [oA 49 1 4,
oL 50 49,
oM 51 7,
oD 52 (.b2s (.t 51)),
oD 53 (.sliceAll .str 1 [(0, 1, (.t 52))]),
oD 54 (.append .str 16 (.t 50) (.t 53)),
oA 55 1 4,
oS 1 55 54]))))))
(.keep [1, 4, 19, 20]
(.reg [oB 56 .add (.t 20) (cI 1),
oM 20 56]))))))))
(.seq
(.keep [4]
(.reg [oK 57 10 4,
oS 10 4 57]))
.ret)))))
def rd_tally_shape_take : List RD := [.cell 4 (some 10) true [(some (.int .u64)), (some .str), (some Y1), (some Y3), (some Y4), (some Y5), (some (.sl (.int .u64))), (some Y8), (some YA), (some (.int .u8))]]
theorem ok_tally_shape_take : fnOk Tryz.prog Tryz.f32 ir_tally_shape_take rd_tally_shape_take = true := by kernel_rfl
def S_tally_shape_take : List AV → List Obj → Option (Prop × AV × List Obj)
  | [.agg [.imm (.int .i64) w, .int .i64 m, .bool x], .ptr 0 0], [.box [.imm (.int .u8) b, .int .i64 p, .int .i64 sh, .int .i64 od, .int .i64 e, .bool true]] => some ((0 ≤ p ∧ p ≤ b.length ∧ b.length ≤ 140737488355328 ∧ sh ≠ 0, .agg [.imm (.int .u64) (curL w b p e), .imm .str (if x = true then (tkF w b p sh od e).1 else []), .imm Y1 [], .imm Y3 [], .imm Y4 [], .imm Y5 [], .imm (.sl (.int .u64)) [], .imm Y8 [], .imm YA [], .imm (.int .u8) []], [.box [.imm (.int .u8) b, .int .i64 (if x = true then (tkF w b p sh od e).2.1 else curP w b p e), .int .i64 sh, .int .i64 od, .int .i64 (if x = true then (tkF w b p sh od e).2.2 else curE w b p sh od e), .bool true]]))
  | _, _ => none
theorem snd_tally_shape_take : SoundS Tryz.prog 32 (RwF S_tally_shape_take).sum := by
  refine rw_fn Tryz.func32 ok_tally_shape_take (env_cons (s := RwF S_cursor_Cursor_Row) snd_cursor_Cursor_Row (env_cons (s := RoF S_tally_sizes) snd_tally_sizes (env_cons (s := RwF S_cursor_Cursor_Bytes) snd_cursor_Cursor_Bytes (env_cons (s := RoF S_bytes_Cut) snd_bytes_Cut (env_cons (s := RoF S_tally_text) snd_tally_text (env_cons (s := RoF S_bytes_Trim) snd_bytes_Trim (env_cons (s := RwF S_cursor_Cursor_Fail) snd_cursor_Cursor_Fail (env_nil _)))))))) fun args objs p v o e => ?_
  unfold S_tally_shape_take at e
  split at e
  · rename_i w m x b p sh od e
    cases e
    refine ⟨rfl, fun hw ho hp => ?_⟩
    change List Int at w
    change List Int at b
    clear hw ho
    obtain ⟨hp0, hp1, hp2, hp3⟩ := hp
    have hq := curP_le (w := w) (e := e) hp0 hp1
    cases x
    · repeat' (intro t ht; first | (cases t <;> first | (cases ht; done) | ((try simp only [bn_s] at ht); (try simp only [nd_s] at ht); (try (exfalso; first | contradiction | omega)))) | (refine castG_go ht ?_; clear ht) | (refine ht ?_ ?_ <;> clear ht) | (refine ht.1 ?_ ?_ <;> clear ht) | (refine ht ?_; clear ht))
      all_goals first
        | exact True.intro
        | exact ⟨hp0, hp1, hp2⟩
        | exact ⟨rfl, rfl⟩
        | trace_state
    repeat' (intro t ht; first | (cases t <;> first | (cases ht; done) | ((try simp only [bn_s] at ht); (try simp only [nd_s] at ht); (try (exfalso; first | contradiction | omega)))) | (refine castG_go ht ?_; clear ht) | (refine ht ?_ ?_ <;> clear ht) | (refine ht.1 ?_ ?_ <;> clear ht) | (refine ht ?_; clear ht))
    all_goals first
      | exact True.intro
      | exact ⟨hp0, hp1, hp2⟩
      | (intro r h1 h2; clear h1; refine h2 ⟨[1, 4, 19, 20], Nat × TS, (fun a => a.1 ≤ 5 ∧ (zs.drop a.1).foldl (tkS b sh) a.2 = tkF w b p sh od e ∧ (0 ≤ a.2.2.1 ∧ a.2.2.1 ≤ b.length) ∧ (a.1 = 0 → a.2.1 = []) ∧ a.2.1.length = a.1), fun a => [.ptr 0 0, .ptr 1 0, .agg [.int .i64 256, .int .i64 256, .int .i64 256, .int .i64 32, .int .i64 256], .int .i64 a.1], fun a => (match a with
        | (0, s) => [.box [.imm (.int .u8) b, .int .i64 s.2.1, .int .i64 sh, .int .i64 od, .int .i64 s.2.2, .bool true], .box [.imm (.int .u64) (curL w b p e), .nils, .nils, .nils, .nils, .nils, .nils, .nils, .nils, .nils]]
        | (_ + 1, s) => [.box [.imm (.int .u8) b, .int .i64 s.2.1, .int .i64 sh, .int .i64 od, .int .i64 s.2.2, .bool true], .box [.imm (.int .u64) (curL w b p e), (.own 2), .nils, .nils, .nils, .nils, .nils, .nils, .nils, .nils], .row false .str s.1]), fun a => 5 - a.1, ⟨(0, ([], curP w b p e, curE w b p sh od e)), ⟨Nat.zero_le _, rfl, hq, fun _ => rfl, rfl⟩, rfl, rfl⟩, ?_⟩; clear h2)
      | trace_state
    rintro ⟨i, s1, s2, s3⟩ ⟨hi, he, hs, h0, hn⟩
    dsimp only at hi he hs h0 hn
    have e0 : ([0] : List Int).getD 0 0 = 0 := rfl
    have hz : ∀ j : Nat, j < 5 → 0 ≤ zs.getD j 0 := by
      intro j hj
      rcases j with _ | _ | _ | _ | _ | j <;> first | decide | omega
    have hzs : zs.length = 5 := rfl
    have hst := fun (h : i < 5) => he.symm.trans (fold_step (l := zs) (f := tkS b sh) (s := (s1, s2, s3)) (i := i) (by rw [hzs]; exact h))
    have hpl := takeP_le (n := zs.getD i 0) (b := b) (p := s2) (sh := sh) (e := s3) hs.1 hs.2 hp3
    cases i
    · obtain rfl : s1 = [] := h0 rfl
      repeat' (intro t ht; first | (cases t <;> first | (cases ht; done) | ((try simp only [bn_s] at ht); (try simp only [nd_s] at ht); (try (exfalso; first | contradiction | omega)))) | (refine castG_go ht ?_; clear ht) | (refine ht ?_ ?_ <;> clear ht) | (refine ht.1 ?_ ?_ <;> clear ht) | (refine ht ?_; clear ht))
      all_goals first
        | exact True.intro
        | exact (rfl : ([0] : List Int).length = 1)
        | ((try simp only [nd_s, bn_s, mm_s] at *); omega)
        | exact ⟨(by decide : 1 * 16 ≤ 140737488355328), (by decide : 1 ≤ 140737488355328)⟩
        | exact ⟨hs.1, hs.2, hp2, hp3⟩
        | exact Nat.le_trans ctR_le (Nat.le_trans takeL_le hp2)
        | (have hT := tkS_t (b := b) (sh := sh) (n := zs.getD 0 0) (s := ([], s2, s3)) (tkOk_t (by assumption) (by assumption) (by assumption))
           have hJ := hst (by omega)
           rw [hT] at hJ
           exact ⟨(1, _), ⟨by first | decide | (dsimp only; omega), hJ.symm, hpl, fun h => (by cases h), rfl⟩, by first | decide | (dsimp only; omega), rfl, rfl⟩)
        | (have hT := tkS_f (b := b) (sh := sh) (n := zs.getD 0 0) (s := ([], s2, s3)) (by first | exact tkOk_1 (by assumption) | exact tkOk_2 (by assumption) | exact tkOk_3 (by assumption))
           have hJ := hst (by omega)
           rw [hT] at hJ
           exact ⟨(1, _), ⟨by first | decide | (dsimp only; omega), hJ.symm, hpl, fun h => (by cases h), rfl⟩, by first | decide | (dsimp only; omega), rfl, rfl⟩)
        | trace_state
    · rename_i i
      repeat' (intro t ht; first | (cases t <;> first | (cases ht; done) | ((try simp only [bn_s] at ht); (try simp only [nd_s] at ht); (try (exfalso; first | contradiction | omega)))) | (refine castG_go ht ?_; clear ht) | (refine ht ?_ ?_ <;> clear ht) | (refine ht.1 ?_ ?_ <;> clear ht) | (refine ht ?_; clear ht))
      all_goals first
        | exact True.intro
        | exact (rfl : ([0] : List Int).length = 1)
        | ((try simp only [nd_s, bn_s, mm_s] at *); omega)
        | exact ⟨(show (s1.length + 1) * 16 ≤ 140737488355328 by omega), (show s1.length + 1 ≤ 140737488355328 by omega)⟩
        | exact ⟨hs.1, hs.2, hp2, hp3⟩
        | exact Nat.le_trans ctR_le (Nat.le_trans takeL_le hp2)
        | (have hT := tkS_t (b := b) (sh := sh) (n := zs.getD (i + 1) 0) (s := (s1, s2, s3)) (tkOk_t (by assumption) (by assumption) (by assumption))
           have hJ := hst (by omega)
           rw [hT] at hJ
           exact ⟨(i + 2, _), ⟨by dsimp only; omega, hJ.symm, hpl, fun h => (by cases h), by simp [hn]⟩, by dsimp only; omega, rfl, rfl⟩)
        | (have hT := tkS_f (b := b) (sh := sh) (n := zs.getD (i + 1) 0) (s := (s1, s2, s3)) (by first | exact tkOk_1 (by assumption) | exact tkOk_2 (by assumption) | exact tkOk_3 (by assumption))
           have hJ := hst (by omega)
           rw [hT] at hJ
           exact ⟨(i + 2, _), ⟨by dsimp only; omega, hJ.symm, hpl, fun h => (by cases h), by simp [hn]⟩, by dsimp only; omega, rfl, rfl⟩)
        | (rw [List.drop_of_length_le (show zs.length ≤ i + 1 by rw [hzs]; omega)] at he
           have he2 : (s1, s2, s3) = tkF w b p sh od e := he
           rw [← he2]; exact ⟨rfl, rfl⟩)
        | trace_state
  · cases e
end Go.Eng
namespace Go.Eng
open Go.Proofs
set_option linter.unusedVariables false
set_option linter.unusedSimpArgs false
set_option maxRecDepth 100000
set_option maxHeartbeats 1000000
def rxO (s : List Int) : Bool := zeroL (s.drop (zi s)) && txF s.length (s.take (zi s))
def rxF : List Int → List (List Int) → List Int → Option (List (List Int))
  | [], o, b => some o
  | n :: r, o, b => if rxO (b.take n.toNat) = true then rxF r (o ++ [(b.take n.toNat).take (zi (b.take n.toNat))]) (b.drop n.toNat) else none
theorem rxF_step {b : List Int} {o : List (List Int)} {i : Nat} (h : i < 5) : rxF (zs.drop i) o b = if rxO (b.take (zs.getD i 0).toNat) = true then rxF (zs.drop (i + 1)) (o ++ [(b.take (zs.getD i 0).toNat).take (zi (b.take (zs.getD i 0).toNat))]) (b.drop (zs.getD i 0).toNat) else none := by
  rw [drop_step (show i < zs.length from h) 0]; rfl
theorem zs_sum {i : Nat} (h : i < 5) : (zs.drop i).sum = zs.getD i 0 + (zs.drop (i + 1)).sum ∧ 32 ≤ zs.getD i 0 ∧ zs.getD i 0 ≤ 256 ∧ 0 ≤ (zs.drop (i + 1)).sum := by
  rcases i with _ | _ | _ | _ | _ | j <;> first | decide | omega
def ir_r27_texts : IR :=
(.seq
(.keep [0]
(.reg [oD 2 (.nilrow .str),
oD 3 (.mov cF)]))
(.seq
(.reg [oD 4 (.nilrow .str)])
(.seq
(.seq
(.reg [oD 5 (.mov (cI 0))])
(.block 0
(.loop
(.seq
(.seq
(.keep [0, 4, 5]
(.reg [oM 9 5,
oB 10 .lss (.t 9) (cI 5)]))
(.cond (.t 10)
.skip
(.exit 0)))
(.seq
(.block 1
(.seq
(.keep [0, 4, 5]
(.reg [oM 13 0,
oC 14 26 [],
oM 15 5,
oI 16 1 14 15,
oL 17 16,
oD 18 (.slice 1 (.t 13) none (some (.t 17)) none),
oM 6 18]))
(.seq
(.keep [0, 4, 5, 6]
(.reg [oM 19 0,
oC 20 26 [],
oM 21 5,
oI 22 1 20 21,
oL 23 22,
oD 24 (.slice 1 (.t 19) (some (.t 23)) none none),
oM 0 24]))
(.seq
(.keep [0, 4, 5, 6]
(.reg [oD 7 (.mov (cI 0))]))
(.seq
(.block 2
(.loop
(.seq
(.seq
(.keep [0, 4, 5, 6, 7]
(.reg [oM 25 7,
oM 26 6,
oE 27 26,
oB 28 .lss (.t 25) (.t 27),
oM 29 28,
oT 29 30 (.mov (.t 6)),
oT 29 31 (.mov (.t 7)),
oT 29 32 (.indexSl 1 (.t 30) (.t 31)),
oT 29 33 (.load none (.t 32)),
oT 29 34 (.bin .neq (.t 33) (.c (.int .u8 0))),
oP 35 29 (.t 34) cF]))
(.cond (.t 35)
.skip
(.exit 2)))
(.block 3
(.keep [0, 4, 5, 6, 7]
(.reg [oM 36 7,
oB 37 .add (.t 36) (cI 1),
oM 7 37]))))))
(.seq
(.seq
(.keep [0, 4, 5, 6, 7]
(.reg [oM 38 7,
oM 8 38]))
(.block 4
(.loop
(.seq
(.seq
(.keep [0, 4, 5, 6, 7, 8]
(.reg [oM 39 8,
oM 40 6,
oE 41 40,
oB 42 .lss (.t 39) (.t 41)]))
(.cond (.t 42)
.skip
(.exit 4)))
(.seq
(.block 5
(.seq
(.keep [0, 4, 5, 6, 7, 8]
(.reg [oM 45 6,
oM 46 8,
oI 47 1 45 46,
oL 48 47,
oB 49 .neq (.t 48) (.c (.int .u8 0))]))
(.cond (.t 49)
(.seq
(.reg [oD 2 (.nilrow .str),
oD 3 (.mov cF)])
.ret)
.skip)))
(.keep [0, 4, 5, 6, 7, 8]
(.reg [oM 43 8,
oB 44 .add (.t 43) (cI 1),
oM 8 44])))))))
(.seq
(.seq
(.keep [0, 4, 5, 6, 7]
(.reg [oM 50 6,
oM 51 7,
oD 52 (.slice 1 (.t 50) none (some (.t 51)) none),
oD 53 (.b2s (.t 52)),
oM 54 6,
oE 55 54,
oC 56 25 [.t 53, .t 55],
oD 57 (.un .not (.t 56))]))
(.cond (.t 57)
(.seq
(.keep []
(.reg [oD 2 (.nilrow .str),
oD 3 (.mov cF)]))
.ret)
.skip))
(.keep [0, 4, 5, 6, 7]
(.reg [oM 58 4,
oM 59 6,
oM 60 7,
oD 61 (.slice 1 (.t 59) none (some (.t 60)) none),
oD 62 (.b2s (.t 61)),
oD 63 (.sliceAll .str 1 [(0, 1, (.t 62))]),
oD 64 (.append .str 16 (.t 58) (.t 63)),
oM 4 64])))))))))
(.keep [0, 4, 5]
(.reg [oM 11 5,
oB 12 .add (.t 11) (cI 1),
oM 5 12])))))))
(.seq
(.keep [4]
(.reg [oM 65 4,
oM 2 65,
oD 3 (.mov cT)]))
.ret))))
def rd_r27_texts : List RD := [.tmp 2 true (some .str), .tmp 3 true none]
theorem ok_r27_texts : fnOk Tryz.prog Tryz.f34 ir_r27_texts rd_r27_texts = true := by kernel_rfl
def S_r27_texts : List AV → List Obj → Option (Prop × AV)
  | [.imm (.int .u8) b], [] => some ((1056 ≤ b.length, .tup [.imm .str ((rxF zs [] b).getD []), .bool (rxF zs [] b).isSome]))
  | _, _ => none
theorem snd_r27_texts : SoundS Tryz.prog 34 (RoF S_r27_texts).sum := by
  refine ro_fn Tryz.func34 ok_r27_texts (env_cons (s := RoF S_r27_sizes) snd_r27_sizes (env_cons (s := RoF S_r27_text) snd_r27_text (env_nil _))) fun args objs p v e => ?_
  unfold S_r27_texts at e
  split at e
  · rename_i b
    cases e
    refine ⟨rfl, fun hw ho hp => ?_⟩
    change List Int at b
    have hl : b.length ≤ maxLen := (hw (.imm (.int .u8) b) (by simp)).2
    unfold maxLen at hl
    clear hw ho
    have hzs : zs.length = 5 := rfl
    repeat' (intro t ht; first | (cases t <;> first | (cases ht; done) | ((try simp only [bn_s] at ht); (try simp only [nd_s] at ht))) | (refine castG_go ht ?_; clear ht) | (refine ht ?_ ?_ <;> clear ht) | (refine ht.1 ?_ ?_ <;> clear ht) | (refine ht ?_; clear ht))
    (intro r h1 h2; clear h1; refine h2 ⟨[0, 4, 5], Nat × List (List Int) × List Int, (fun a => a.1 ≤ 5 ∧ (zs.drop a.1).sum ≤ a.2.2.length ∧ a.2.2.length ≤ b.length ∧ a.2.1.length = a.1 ∧ rxF zs [] b = rxF (zs.drop a.1) a.2.1 a.2.2), fun a => [.imm (.int .u8) a.2.2, .own 0, .int .i64 a.1], fun a => [.row false .str a.2.1], fun a => 5 - a.1, ⟨(0, [], b), ⟨Nat.zero_le _, by show (1056 : Int) ≤ (b.length : Int); omega, Nat.le_refl _, rfl, rfl⟩, rfl, rfl⟩, ?_⟩; clear h2)
    rintro ⟨k, o, y⟩ ⟨hk, hs, hy, ho', he⟩
    dsimp only at hk hs hy ho' he
    have hz := fun (h : k < 5) => zs_sum h
    have hst := fun (h : k < 5) => rxF_step (b := y) (o := o) h
    repeat' (intro t ht; first | (cases t <;> first | (cases ht; done) | ((try simp only [bn_s] at ht); (try simp only [nd_s] at ht); (try (exfalso; first | contradiction | omega)))) | (refine castG_go ht ?_; clear ht) | (refine ht ?_ ?_ <;> clear ht) | (refine ht.1 ?_ ?_ <;> clear ht) | (refine ht ?_; clear ht))
    all_goals first
      | exact True.intro
      | ((try simp only [nd_s, bn_s, mm_s] at *); omega)
      | (have h1 := hz (by omega)
         exact (show 0 ≤ zs.getD k 0 ∧ zs.getD k 0 ≤ (y.length : Int) from by omega))
      | (rw [List.drop_of_length_le (show zs.length ≤ k by omega)] at he
         rw [he]; exact ⟨rfl, rfl⟩)
      | (intro r h1 h2; clear h1; refine h2 ⟨[0, 4, 5, 6, 7], Nat, (fun i => i ≤ (y.take (zs.getD k 0).toNat).length ∧ idxA 0 (y.take (zs.getD k 0).toNat) 0 = idxA 0 ((y.take (zs.getD k 0).toNat).drop i) i), fun i => [.imm (.int .u8) (y.drop (zs.getD k 0).toNat), .own 0, .int .i64 k, .imm (.int .u8) (y.take (zs.getD k 0).toNat), .int .i64 i], fun _ => [.row false .str o], fun i => (y.take (zs.getD k 0).toNat).length - i, ⟨0, ⟨Nat.zero_le _, rfl⟩, rfl, rfl⟩, ?_⟩; clear h2)
      | trace_state
    rintro i ⟨hi, hx⟩
    have hk5 : k < 5 := by omega
    have h1 := hz hk5
    rw [hst hk5] at he
    clear hst hz
    have hsl : (y.take (zs.getD k 0).toNat).length ≤ b.length := by rw [List.length_take]; omega
    have hdl : ((y.drop (zs.getD k 0).toNat).length : Int) = y.length - zs.getD k 0 := by rw [List.length_drop]; omega
    have htl : ((y.take (zs.getD k 0).toNat).length : Int) = zs.getD k 0 := by rw [List.length_take]; omega
    generalize y.take (zs.getD k 0).toNat = seg at *
    generalize y.drop (zs.getD k 0).toNat = y2 at *
    repeat' (intro t ht; first | (cases t <;> first | (cases ht; done) | ((try simp only [bn_s] at ht); (try simp only [nd_s] at ht); (try (exfalso; first | contradiction | omega)))) | (refine castG_go ht ?_; clear ht) | (refine ht ?_ ?_ <;> clear ht) | (refine ht.1 ?_ ?_ <;> clear ht) | (refine ht ?_; clear ht))
    all_goals first
      | exact True.intro
      | ((try simp only [nd_s, bn_s, mm_s] at *); omega)
      | exact ⟨i + 1, ⟨by omega, hx.trans (idxA_ne (by omega) (by assumption))⟩, by dsimp only; omega, rfl, rfl⟩
      | (have hzi : zi seg = i := by
           first
             | (exact (zi_end (by omega) hx).trans (by omega))
             | (exact zi_at (by omega) hx (by assumption))
         (intro r h1 h2; clear h1; refine h2 ⟨[0, 4, 5, 6, 7, 8], Nat, (fun j => i ≤ j ∧ j ≤ seg.length ∧ zeroL ((seg.drop i).take (j - i)) = true), fun j => [.imm (.int .u8) y2, .own 0, .int .i64 k, .imm (.int .u8) seg, .int .i64 i, .int .i64 j], fun _ => [.row false .str o], fun j => seg.length - j, ⟨i, ⟨Nat.le_refl _, hi, by rw [Nat.sub_self]; rfl⟩, rfl, rfl⟩, ?_⟩; clear h2))
      | trace_state
    all_goals rintro j ⟨hj1, hj2, hj3⟩
    all_goals repeat' (intro t ht; first | (cases t <;> first | (cases ht; done) | ((try simp only [bn_s] at ht); (try simp only [nd_s] at ht); (try (exfalso; first | contradiction | omega)))) | (refine castG_go ht ?_; clear ht) | (refine ht ?_ ?_ <;> clear ht) | (refine ht.1 ?_ ?_ <;> clear ht) | (refine ht ?_; clear ht))
    all_goals first
      | exact True.intro
      | ((try simp only [nd_s, bn_s, mm_s] at *); omega)
      | exact ⟨j + 1, ⟨by omega, by omega, zeroT_step (by omega) hj3 hj1 (by assumption)⟩, by dsimp only; omega, rfl, rfl⟩
      | (have h0 : zeroL (seg.drop (zi seg)) = false := by
           rw [hzi]
           have := zeroT_odd (b := seg) (p := i) (k := j) (n := seg.length) (by omega) hj1 (by omega) (by assumption)
           rwa [List.take_of_length_le (by rw [List.length_drop]; omega)] at this
         have hO : rxO seg = false := by unfold rxO; rw [h0]; rfl
         rw [he, hO]; exact ⟨rfl, rfl⟩)
      | exact ⟨(show (o.length + 1) * 16 ≤ 140737488355328 by omega), (show o.length + 1 ≤ 140737488355328 by omega)⟩
      | (have h0 : zeroL (seg.drop (zi seg)) = true := by
           rw [hzi]; rwa [List.take_of_length_le (by rw [List.length_drop]; omega)] at hj3
         have hO : rxO seg = true := by
           unfold rxO; rw [h0, hzi]; exact (by assumption : txF (seg.length : Int) (seg.take i) = true)
         rw [hO, if_pos rfl, hzi] at he
         exact ⟨(k + 1, o ++ [seg.take i], y2), ⟨by dsimp only; omega, by dsimp only; omega, by dsimp only; omega, by simp [ho'], he⟩, by dsimp only; omega, rfl, rfl⟩)
      | (have h0 : zeroL (seg.drop (zi seg)) = true := by
           rw [hzi]; rwa [List.take_of_length_le (by rw [List.length_drop]; omega)] at hj3
         have hO : rxO seg = false := by
           unfold rxO; rw [h0, hzi]; exact (by assumption : txF (seg.length : Int) (seg.take i) = false)
         rw [he, hO]; exact ⟨rfl, rfl⟩)
      | trace_state
  · cases e
end Go.Eng
namespace Go.Eng
open Go.Proofs
set_option linter.unusedVariables false
set_option linter.unusedSimpArgs false
set_option maxRecDepth 100000
set_option maxHeartbeats 1000000
def z1 (y : List Int) : Bool := zeroL ((y.drop 4).take 4) && zeroL ((y.drop 14).take 2)
end Go.Eng
