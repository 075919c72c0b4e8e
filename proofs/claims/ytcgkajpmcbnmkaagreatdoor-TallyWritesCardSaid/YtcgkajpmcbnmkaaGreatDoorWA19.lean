/- Parts of the proof: V2. No condition. -/
import Derived.Test.YtcgkajpmcbnmkaaGreatDoorProg
import Derived.Test.YtcgkajpmcbnmkaaGreatDoorWA10
import Derived.KernelRfl
import Derived.Test.YtcgkajpmcbnmkaaGreatDoorWA17
namespace Go.Eng
open Go.Proofs
set_option linter.unusedVariables false
set_option linter.unusedSimpArgs false
set_option maxRecDepth 100000
set_option maxHeartbeats 1000000
def ir_slices_EqualFunc_uint64_uint64_uint64_uint64 : IR :=
(.seq
(.keep [0, 1, 2]
(.reg [oD 6 (.mov cF)]))
(.seq
(.seq
(.keep [0, 1, 2]
(.reg [oM 10 0,
oE 11 10,
oM 12 1,
oE 13 12,
oB 14 .neq (.t 11) (.t 13)]))
(.cond (.t 14)
(.seq
(.reg [oD 6 (.mov cF)])
.ret)
.skip))
(.seq
(.seq
(.keep [0, 1, 2]
(.reg [oM 15 0,
oE 16 15,
oD 17 (.mov (cI 0))]))
(.block 0
(.loop
(.seq
(.keep [1, 2, 15, 16, 17]
(.reg [oB 18 .lss (.t 17) (.t 16)]))
(.seq
(.cond (.t 18)
.skip
(.exit 0))
(.seq
(.block 1
(.seq
(.keep [1, 2, 15, 16, 17]
(.reg [oM 19 17,
oI 20 1 15 17,
oL 21 20,
oM 7 19,
oM 8 21]))
(.seq
(.keep [1, 2, 7, 8, 15, 16, 17]
(.reg [oM 22 1,
oM 23 7,
oI 24 1 22 23,
oL 25 24,
oM 9 25]))
(.seq
(.keep [1, 2, 8, 9, 15, 16, 17]
(.reg [oM 26 2,
oM 27 8,
oM 28 9,
oD 29 (.call false (.t 26) [.t 27, .t 28]),
oD 30 (.un .not (.t 29))]))
(.cond (.t 30)
(.seq
(.reg [oD 6 (.mov cF)])
.ret)
.skip)))))
(.keep [1, 2, 15, 16, 17]
(.reg [oB 31 .add (.t 17) (cI 1),
oM 17 31]))))))))
(.seq
(.keep []
(.reg [oD 6 (.mov cT)]))
.ret))))
def rd_slices_EqualFunc_uint64_uint64_uint64_uint64 : List RD := [.tmp 6 true none]
theorem ok_slices_EqualFunc_uint64_uint64_uint64_uint64 : fnOk Tryz.prog Tryz.f96 ir_slices_EqualFunc_uint64_uint64_uint64_uint64 rd_slices_EqualFunc_uint64_uint64_uint64_uint64 = true := by kernel_rfl
def S_slices_EqualFunc_uint64_uint64_uint64_uint64 : List AV → List Obj → Option (Prop × AV)
  | [.imm (.sl (.int .u64)) a, .imm (.sl (.int .u64)) b, .fn 52 [] []], [] => some ((True, .bool (decide ((a : List (List Int)) = b))))
  | _, _ => none
theorem snd_slices_EqualFunc_uint64_uint64_uint64_uint64 : SoundS Tryz.prog 96 (RoF S_slices_EqualFunc_uint64_uint64_uint64_uint64).sum := by
  refine ro_fn Tryz.func96 ok_slices_EqualFunc_uint64_uint64_uint64_uint64 (env_cons (s := RoF S_slices_Equal_uint64_uint64) snd_slices_Equal_uint64_uint64 (env_nil _)) fun args objs p v e => ?_
  unfold S_slices_EqualFunc_uint64_uint64_uint64_uint64 at e
  split at e
  · rename_i a b
    cases e
    refine ⟨rfl, fun hw ho hp => ?_⟩
    change List (List Int) at a
    change List (List Int) at b
    have hl : a.length ≤ maxLen := (hw (.imm (.sl (.int .u64)) a) (by simp)).2
    unfold maxLen at hl
    clear hw ho
    repeat' (intro t ht; first | (cases t <;> first | (cases ht; done) | ((try simp only [bn_s] at ht); (try simp only [nd_s] at ht))) | (refine castG_go ht ?_; clear ht) | (refine ht ?_ ?_ <;> clear ht) | (refine ht.1 ?_ ?_ <;> clear ht) | (refine ht ?_; clear ht))
    all_goals first
      | (have hne : a ≠ b := fun h => (by assumption : ¬ (a.length : Int) = b.length) (by rw [h])
         refine ⟨?_, rfl⟩; rw [decide_eq_false hne]; done)
      | (intro r h1 h2; clear h1; refine h2 ⟨[1, 2, 15, 16, 17], Nat, (fun i => i ≤ a.length ∧ a.take i = b.take i), fun i => [.imm (.sl (.int .u64)) b, .fn 52 [] [], .imm (.sl (.int .u64)) a, .int .i64 a.length, .int .i64 i], fun _ => [], fun i => a.length - i, ⟨0, ⟨Nat.zero_le _, rfl⟩, rfl, rfl⟩, ?_⟩; clear h2)
    rintro i ⟨hi, he⟩
    have hl2 : a.length = b.length := by omega
    repeat' (intro t ht; first | (cases t <;> first | (cases ht; done) | ((try simp only [bn_s] at ht); (try simp only [nd_s] at ht); (try (exfalso; first | contradiction | omega)))) | (refine castG_go ht ?_; clear ht) | (refine ht ?_ ?_ <;> clear ht) | (refine ht.1 ?_ ?_ <;> clear ht) | (refine ht ?_; clear ht))
    all_goals (try generalize (Ty.dflt (.sl (.int .u64))) = od at *)
    all_goals first
      | exact True.intro
      | ((try simp only [nd_s, bn_s, mm_s] at *); omega)
      | (have e := tkAll he (by omega) hl2
         refine ⟨?_, rfl⟩; rw [decide_eq_true e]; done)
      | (have hne : a ≠ b := tkNe (d := od) (i := i) (by assumption)
         refine ⟨?_, rfl⟩; rw [decide_eq_false hne]; done)
      | exact ⟨i + 1, ⟨by omega, tkStep he (by omega) hl2 (d := od) (by assumption)⟩, by (try simp only [nd_s, bn_s, mm_s] at *); omega, rfl, rfl⟩
      | skip
  · cases e
def ir_hello_sameElem : IR :=
(.seq
(.keep [0, 1]
(.reg [oD 2 (.boxv (.t 0)),
oD 3 (.boxv (.t 1)),
oD 4 (.mov cF)]))
(.seq
(.keep [2, 3]
(.reg [oA 5 0 2,
oL 6 5,
oA 7 0 3,
oL 8 7,
oB 9 .eql (.t 6) (.t 8),
oM 10 9,
oT 10 11 (.fieldAddr 1 (.t 2)),
oT 10 12 (.load none (.t 11)),
oT 10 13 (.fieldAddr 1 (.t 3)),
oT 10 14 (.load none (.t 13)),
oT 10 15 (.call false (.f 53) [(.t 12), (.t 14)]),
oP 16 10 (.t 15) cF,
oM 4 16]))
.ret))
def rd_hello_sameElem : List RD := [.tmp 4 true none]
theorem ok_hello_sameElem : fnOk Tryz.prog Tryz.f55 ir_hello_sameElem rd_hello_sameElem = true := by kernel_rfl
def S_hello_sameElem : List AV → List Obj → Option (Prop × AV)
  | [.agg [.int .i64 a0, .imm (.int .u8) a1], .agg [.int .i64 b0, .imm (.int .u8) b1]], [] => some ((True, .bool (decide (((a0, a1, ()) : VEl) = (b0, b1, ())))))
  | _, _ => none
theorem snd_hello_sameElem : SoundS Tryz.prog 55 (RoF S_hello_sameElem).sum := by
  refine ro_fn Tryz.func55 ok_hello_sameElem (env_cons (s := RoF S_bytes_Equal) snd_bytes_Equal (env_nil _)) fun args objs p v e => ?_
  unfold S_hello_sameElem at e
  split at e
  · rename_i a0 a1 b0 b1
    cases e
    refine ⟨rfl, fun hw ho hp => ?_⟩
    change List Int at a1
    change List Int at b1
    clear hw ho
    repeat' (intro t ht; first | (cases t <;> first | (cases ht; done) | ((try simp only [bn_s] at ht); (try simp only [nd_s] at ht); (try (exfalso; first | contradiction | omega)))) | (refine castG_go ht ?_; clear ht) | (refine ht ?_ ?_ <;> clear ht) | (refine ht.1 ?_ ?_ <;> clear ht) | (refine ht ?_; clear ht))
    all_goals first
      | exact True.intro
      | (refine ⟨congrArg AV.bool ?_, rfl⟩; rw [Bool.eq_iff_iff]; simp only [Bool.and_eq_true, decide_eq_true_eq, beq_iff_eq, Prod.mk.injEq, and_true, and_assoc]; done)
      | (refine ⟨congrArg AV.bool ?_, rfl⟩; simp_all [Bool.and_assoc]; done)
      | (refine ⟨congrArg AV.bool ?_, rfl⟩; rw [Bool.eq_iff_iff]; simp_all [and_assoc]; done)
      | skip
  · cases e
def ir_slices_EqualFunc_api_Elem_api_Elem_api_Elem_api_Elem : IR :=
(.seq
(.keep [0, 1, 2]
(.reg [oD 6 (.mov cF)]))
(.seq
(.seq
(.keep [0, 1, 2]
(.reg [oM 10 0,
oE 11 10,
oM 12 1,
oE 13 12,
oB 14 .neq (.t 11) (.t 13)]))
(.cond (.t 14)
(.seq
(.reg [oD 6 (.mov cF)])
.ret)
.skip))
(.seq
(.seq
(.keep [0, 1, 2]
(.reg [oM 15 0,
oE 16 15,
oD 17 (.mov (cI 0))]))
(.block 0
(.loop
(.seq
(.keep [1, 2, 15, 16, 17]
(.reg [oB 18 .lss (.t 17) (.t 16)]))
(.seq
(.cond (.t 18)
.skip
(.exit 0))
(.seq
(.block 1
(.seq
(.keep [1, 2, 15, 16, 17]
(.reg [oM 19 17,
oI 20 2 15 17,
oK 21 2 20,
oD 8 (.box [.int .i64 0, .imm (.int .u8) []]),
oM 7 19,
oS 2 8 21]))
(.seq
(.keep [1, 2, 7, 8, 15, 16, 17]
(.reg [oM 22 1,
oM 23 7,
oI 24 2 22 23,
oK 25 2 24,
oD 9 (.box [.int .i64 0, .imm (.int .u8) []]),
oS 2 9 25]))
(.seq
(.keep [1, 2, 8, 9, 15, 16, 17]
(.reg [oM 26 2,
oK 27 2 8,
oK 28 2 9,
oD 29 (.call false (.t 26) [.t 27, .t 28]),
oD 30 (.un .not (.t 29))]))
(.cond (.t 30)
(.seq
(.reg [oD 6 (.mov cF)])
.ret)
.skip)))))
(.keep [1, 2, 15, 16, 17]
(.reg [oB 31 .add (.t 17) (cI 1),
oM 17 31]))))))))
(.seq
(.keep []
(.reg [oD 6 (.mov cT)]))
.ret))))
def rd_slices_EqualFunc_api_Elem_api_Elem_api_Elem_api_Elem : List RD := [.tmp 6 true none]
theorem ok_slices_EqualFunc_api_Elem_api_Elem_api_Elem_api_Elem : fnOk Tryz.prog Tryz.f54 ir_slices_EqualFunc_api_Elem_api_Elem_api_Elem_api_Elem rd_slices_EqualFunc_api_Elem_api_Elem_api_Elem_api_Elem = true := by kernel_rfl
def S_slices_EqualFunc_api_Elem_api_Elem_api_Elem_api_Elem : List AV → List Obj → Option (Prop × AV)
  | [.imm (.cons (.int .i64) (.cons (.sl (.int .u8)) .nil)) a, .imm (.cons (.int .i64) (.cons (.sl (.int .u8)) .nil)) b, .fn 55 [] []], [] => some ((True, .bool (decide ((a : List VEl) = b))))
  | _, _ => none
theorem snd_slices_EqualFunc_api_Elem_api_Elem_api_Elem_api_Elem : SoundS Tryz.prog 54 (RoF S_slices_EqualFunc_api_Elem_api_Elem_api_Elem_api_Elem).sum := by
  refine ro_fn Tryz.func54 ok_slices_EqualFunc_api_Elem_api_Elem_api_Elem_api_Elem (env_cons (s := RoF S_hello_sameElem) snd_hello_sameElem (env_nil _)) fun args objs p v e => ?_
  unfold S_slices_EqualFunc_api_Elem_api_Elem_api_Elem_api_Elem at e
  split at e
  · rename_i a b
    cases e
    refine ⟨rfl, fun hw ho hp => ?_⟩
    change List VEl at a
    change List VEl at b
    have hl : a.length ≤ maxLen := (hw (.imm YB a) (by simp)).2
    unfold maxLen at hl
    clear hw ho
    repeat' (intro t ht; first | (cases t <;> first | (cases ht; done) | ((try simp only [bn_s] at ht); (try simp only [nd_s] at ht))) | (refine castG_go ht ?_; clear ht) | (refine ht ?_ ?_ <;> clear ht) | (refine ht.1 ?_ ?_ <;> clear ht) | (refine ht ?_; clear ht))
    all_goals first
      | (have hne : a ≠ b := fun h => (by assumption : ¬ (a.length : Int) = b.length) (by rw [h])
         refine ⟨?_, rfl⟩; rw [decide_eq_false hne]; done)
      | (intro r h1 h2; clear h1; refine h2 ⟨[1, 2, 15, 16, 17], Nat, (fun i => i ≤ a.length ∧ a.take i = b.take i), fun i => [.imm YB b, .fn 55 [] [], .imm YB a, .int .i64 a.length, .int .i64 i], fun _ => [], fun i => a.length - i, ⟨0, ⟨Nat.zero_le _, rfl⟩, rfl, rfl⟩, ?_⟩; clear h2)
    rintro i ⟨hi, he⟩
    have hl2 : a.length = b.length := by omega
    repeat' (intro t ht; first | (cases t <;> first | (cases ht; done) | ((try simp only [bn_s] at ht); (try simp only [nd_s] at ht); (try (exfalso; first | contradiction | omega)))) | (refine castG_go ht ?_; clear ht) | (refine ht ?_ ?_ <;> clear ht) | (refine ht.1 ?_ ?_ <;> clear ht) | (refine ht ?_; clear ht))
    all_goals (try generalize (Ty.dflt YB) = od at *)
    all_goals first
      | exact True.intro
      | ((try simp only [nd_s, bn_s, mm_s] at *); omega)
      | (have e := tkAll he (by omega) hl2
         refine ⟨?_, rfl⟩; rw [decide_eq_true e]; done)
      | (have hne : a ≠ b := tkNe (d := od) (i := i) (by assumption)
         refine ⟨?_, rfl⟩; rw [decide_eq_false hne]; done)
      | exact ⟨i + 1, ⟨by omega, tkStep he (by omega) hl2 (d := od) (by assumption)⟩, by (try simp only [nd_s, bn_s, mm_s] at *); omega, rfl, rfl⟩
      | skip
  · cases e
def ir_band_Same_1 : IR :=
(.seq
(.keep [0, 1]
(.reg [oD 2 (.boxv (.t 0)),
oD 3 (.boxv (.t 1)),
oD 4 (.mov cF)]))
(.seq
(.keep [2, 3]
(.reg [oA 5 0 2,
oL 6 5,
oA 7 0 3,
oL 8 7,
oB 9 .eql (.t 6) (.t 8),
oM 10 9,
oT 10 11 (.fieldAddr 1 (.t 2)),
oT 10 12 (.load none (.t 11)),
oT 10 13 (.fieldAddr 1 (.t 3)),
oT 10 14 (.load none (.t 13)),
oT 10 15 (.bin .eql (.t 12) (.t 14)),
oP 16 10 (.t 15) cF,
oM 17 16,
oT 17 18 (.fieldAddr 2 (.t 2)),
oT 17 19 (.load none (.t 18)),
oT 17 20 (.fieldAddr 2 (.t 3)),
oT 17 21 (.load none (.t 20)),
oT 17 22 (.bin .eql (.t 19) (.t 21)),
oP 23 17 (.t 22) cF,
oM 24 23,
oT 24 25 (.fieldAddr 3 (.t 2)),
oT 24 26 (.load none (.t 25)),
oT 24 27 (.fieldAddr 3 (.t 3)),
oT 24 28 (.load none (.t 27)),
oT 24 29 (.bin .eql (.t 26) (.t 28)),
oP 30 24 (.t 29) cF,
oM 31 30,
oT 31 32 (.fieldAddr 4 (.t 2)),
oT 31 33 (.load none (.t 32)),
oT 31 34 (.fieldAddr 4 (.t 3)),
oT 31 35 (.load none (.t 34)),
oT 31 36 (.call false (.f 53) [(.t 33), (.t 35)]),
oP 37 31 (.t 36) cF,
oM 4 37]))
.ret))
def rd_band_Same_1 : List RD := [.tmp 4 true none]
theorem ok_band_Same_1 : fnOk Tryz.prog Tryz.f107 ir_band_Same_1 rd_band_Same_1 = true := by kernel_rfl
def S_band_Same_1 : List AV → List Obj → Option (Prop × AV)
  | [.agg [.int .i64 a0, .int .u64 a1, .int .u64 a2, .int .u64 a3, .imm (.int .u8) a4], .agg [.int .i64 b0, .int .u64 b1, .int .u64 b2, .int .u64 b3, .imm (.int .u8) b4]], [] => some ((True, .bool (decide (((a0, a1, a2, a3, a4, ()) : VBd) = (b0, b1, b2, b3, b4, ())))))
  | _, _ => none
theorem snd_band_Same_1 : SoundS Tryz.prog 107 (RoF S_band_Same_1).sum := by
  refine ro_fn Tryz.func107 ok_band_Same_1 (env_cons (s := RoF S_bytes_Equal) snd_bytes_Equal (env_nil _)) fun args objs p v e => ?_
  unfold S_band_Same_1 at e
  split at e
  · rename_i a0 a1 a2 a3 a4 b0 b1 b2 b3 b4
    cases e
    refine ⟨rfl, fun hw ho hp => ?_⟩
    change List Int at a4
    change List Int at b4
    clear hw ho
    repeat' (intro t ht; first | (cases t <;> first | (cases ht; done) | ((try simp only [bn_s] at ht); (try simp only [nd_s] at ht); (try (exfalso; first | contradiction | omega)))) | (refine castG_go ht ?_; clear ht) | (refine ht ?_ ?_ <;> clear ht) | (refine ht.1 ?_ ?_ <;> clear ht) | (refine ht ?_; clear ht))
    all_goals first
      | exact True.intro
      | (refine ⟨congrArg AV.bool ?_, rfl⟩; rw [Bool.eq_iff_iff]; simp only [Bool.and_eq_true, decide_eq_true_eq, beq_iff_eq, Prod.mk.injEq, and_true, and_assoc]; done)
      | (refine ⟨congrArg AV.bool ?_, rfl⟩; simp_all [Bool.and_assoc]; done)
      | (refine ⟨congrArg AV.bool ?_, rfl⟩; rw [Bool.eq_iff_iff]; simp_all [and_assoc]; done)
      | skip
  · cases e
def ir_slices_EqualFunc_api_Band_api_Band_api_Band_api_Band : IR :=
(.seq
(.keep [0, 1, 2]
(.reg [oD 6 (.mov cF)]))
(.seq
(.seq
(.keep [0, 1, 2]
(.reg [oM 10 0,
oE 11 10,
oM 12 1,
oE 13 12,
oB 14 .neq (.t 11) (.t 13)]))
(.cond (.t 14)
(.seq
(.reg [oD 6 (.mov cF)])
.ret)
.skip))
(.seq
(.seq
(.keep [0, 1, 2]
(.reg [oM 15 0,
oE 16 15,
oD 17 (.mov (cI 0))]))
(.block 0
(.loop
(.seq
(.keep [1, 2, 15, 16, 17]
(.reg [oB 18 .lss (.t 17) (.t 16)]))
(.seq
(.cond (.t 18)
.skip
(.exit 0))
(.seq
(.block 1
(.seq
(.keep [1, 2, 15, 16, 17]
(.reg [oM 19 17,
oI 20 5 15 17,
oK 21 5 20,
oD 8 (.box [.int .i64 0, .int .u64 0, .int .u64 0, .int .u64 0, .imm (.int .u8) []]),
oM 7 19,
oS 5 8 21]))
(.seq
(.keep [1, 2, 7, 8, 15, 16, 17]
(.reg [oM 22 1,
oM 23 7,
oI 24 5 22 23,
oK 25 5 24,
oD 9 (.box [.int .i64 0, .int .u64 0, .int .u64 0, .int .u64 0, .imm (.int .u8) []]),
oS 5 9 25]))
(.seq
(.keep [1, 2, 8, 9, 15, 16, 17]
(.reg [oM 26 2,
oK 27 5 8,
oK 28 5 9,
oD 29 (.call false (.t 26) [.t 27, .t 28]),
oD 30 (.un .not (.t 29))]))
(.cond (.t 30)
(.seq
(.reg [oD 6 (.mov cF)])
.ret)
.skip)))))
(.keep [1, 2, 15, 16, 17]
(.reg [oB 31 .add (.t 17) (cI 1),
oM 17 31]))))))))
(.seq
(.keep []
(.reg [oD 6 (.mov cT)]))
.ret))))
def rd_slices_EqualFunc_api_Band_api_Band_api_Band_api_Band : List RD := [.tmp 6 true none]
theorem ok_slices_EqualFunc_api_Band_api_Band_api_Band_api_Band : fnOk Tryz.prog Tryz.f106 ir_slices_EqualFunc_api_Band_api_Band_api_Band_api_Band rd_slices_EqualFunc_api_Band_api_Band_api_Band_api_Band = true := by kernel_rfl
def S_slices_EqualFunc_api_Band_api_Band_api_Band_api_Band : List AV → List Obj → Option (Prop × AV)
  | [.imm (.cons (.int .i64) (.cons (.int .u64) (.cons (.int .u64) (.cons (.int .u64) (.cons (.sl (.int .u8)) .nil))))) a, .imm (.cons (.int .i64) (.cons (.int .u64) (.cons (.int .u64) (.cons (.int .u64) (.cons (.sl (.int .u8)) .nil))))) b, .fn 107 [] []], [] => some ((True, .bool (decide ((a : List VBd) = b))))
  | _, _ => none
theorem snd_slices_EqualFunc_api_Band_api_Band_api_Band_api_Band : SoundS Tryz.prog 106 (RoF S_slices_EqualFunc_api_Band_api_Band_api_Band_api_Band).sum := by
  refine ro_fn Tryz.func106 ok_slices_EqualFunc_api_Band_api_Band_api_Band_api_Band (env_cons (s := RoF S_band_Same_1) snd_band_Same_1 (env_nil _)) fun args objs p v e => ?_
  unfold S_slices_EqualFunc_api_Band_api_Band_api_Band_api_Band at e
  split at e
  · rename_i a b
    cases e
    refine ⟨rfl, fun hw ho hp => ?_⟩
    change List VBd at a
    change List VBd at b
    have hl : a.length ≤ maxLen := (hw (.imm Y5 a) (by simp)).2
    unfold maxLen at hl
    clear hw ho
    repeat' (intro t ht; first | (cases t <;> first | (cases ht; done) | ((try simp only [bn_s] at ht); (try simp only [nd_s] at ht))) | (refine castG_go ht ?_; clear ht) | (refine ht ?_ ?_ <;> clear ht) | (refine ht.1 ?_ ?_ <;> clear ht) | (refine ht ?_; clear ht))
    all_goals first
      | (have hne : a ≠ b := fun h => (by assumption : ¬ (a.length : Int) = b.length) (by rw [h])
         refine ⟨?_, rfl⟩; rw [decide_eq_false hne]; done)
      | (intro r h1 h2; clear h1; refine h2 ⟨[1, 2, 15, 16, 17], Nat, (fun i => i ≤ a.length ∧ a.take i = b.take i), fun i => [.imm Y5 b, .fn 107 [] [], .imm Y5 a, .int .i64 a.length, .int .i64 i], fun _ => [], fun i => a.length - i, ⟨0, ⟨Nat.zero_le _, rfl⟩, rfl, rfl⟩, ?_⟩; clear h2)
    rintro i ⟨hi, he⟩
    have hl2 : a.length = b.length := by omega
    repeat' (intro t ht; first | (cases t <;> first | (cases ht; done) | ((try simp only [bn_s] at ht); (try simp only [nd_s] at ht); (try (exfalso; first | contradiction | omega)))) | (refine castG_go ht ?_; clear ht) | (refine ht ?_ ?_ <;> clear ht) | (refine ht.1 ?_ ?_ <;> clear ht) | (refine ht ?_; clear ht))
    all_goals (try generalize (Ty.dflt Y5) = od at *)
    all_goals first
      | exact True.intro
      | ((try simp only [nd_s, bn_s, mm_s] at *); omega)
      | (have e := tkAll he (by omega) hl2
         refine ⟨?_, rfl⟩; rw [decide_eq_true e]; done)
      | (have hne : a ≠ b := tkNe (d := od) (i := i) (by assumption)
         refine ⟨?_, rfl⟩; rw [decide_eq_false hne]; done)
      | exact ⟨i + 1, ⟨by omega, tkStep he (by omega) hl2 (d := od) (by assumption)⟩, by (try simp only [nd_s, bn_s, mm_s] at *); omega, rfl, rfl⟩
      | skip
  · cases e
def ir_band_Same : IR :=
(.seq
(.keep [0, 1]
(.reg [oD 4 (.mov cF)]))
(.seq
(.reg [oM 5 0,
oM 6 1,
oC 7 106 [.t 5, .t 6, .f 107],
oM 4 7])
.ret))
def rd_band_Same : List RD := [.tmp 4 true none]
theorem ok_band_Same : fnOk Tryz.prog Tryz.f62 ir_band_Same rd_band_Same = true := by kernel_rfl
def S_band_Same : List AV → List Obj → Option (Prop × AV)
  | [.imm (.cons (.int .i64) (.cons (.int .u64) (.cons (.int .u64) (.cons (.int .u64) (.cons (.sl (.int .u8)) .nil))))) a, .imm (.cons (.int .i64) (.cons (.int .u64) (.cons (.int .u64) (.cons (.int .u64) (.cons (.sl (.int .u8)) .nil))))) b], [] => some ((True, .bool (decide ((a : List VBd) = b))))
  | _, _ => none
theorem snd_band_Same : SoundS Tryz.prog 62 (RoF S_band_Same).sum := by
  refine ro_fn Tryz.func62 ok_band_Same (env_cons (s := RoF S_slices_EqualFunc_api_Band_api_Band_api_Band_api_Band) snd_slices_EqualFunc_api_Band_api_Band_api_Band_api_Band (env_cons (s := RoF S_band_Same_1) snd_band_Same_1 (env_nil _))) fun args objs p v e => ?_
  unfold S_band_Same at e
  split at e
  · rename_i a b
    cases e
    refine ⟨rfl, fun hw ho hp => ?_⟩
    clear hw ho
    repeat' (intro t ht; first | (cases t <;> first | (cases ht; done) | ((try simp only [bn_s] at ht); (try simp only [nd_s] at ht); (try (exfalso; first | contradiction | omega)))) | (refine castG_go ht ?_; clear ht) | (refine ht ?_ ?_ <;> clear ht) | (refine ht.1 ?_ ?_ <;> clear ht) | (refine ht ?_; clear ht))
    all_goals first
      | exact True.intro
      | exact ⟨rfl, rfl⟩
      | exact rfl
  · cases e
def ir_instr_Same_1 : IR :=
(.seq
(.keep [0, 1]
(.reg [oD 2 (.boxv (.t 0)),
oD 3 (.boxv (.t 1)),
oD 4 (.mov cF)]))
(.seq
(.keep [2, 3]
(.reg [oA 5 0 2,
oL 6 5,
oA 7 0 3,
oL 8 7,
oB 9 .eql (.t 6) (.t 8),
oM 10 9,
oT 10 11 (.fieldAddr 1 (.t 2)),
oT 10 12 (.load none (.t 11)),
oT 10 13 (.fieldAddr 1 (.t 3)),
oT 10 14 (.load none (.t 13)),
oT 10 15 (.bin .eql (.t 12) (.t 14)),
oP 16 10 (.t 15) cF,
oM 17 16,
oT 17 18 (.fieldAddr 2 (.t 2)),
oT 17 19 (.load none (.t 18)),
oT 17 20 (.fieldAddr 2 (.t 3)),
oT 17 21 (.load none (.t 20)),
oT 17 22 (.bin .eql (.t 19) (.t 21)),
oP 23 17 (.t 22) cF,
oM 24 23,
oT 24 25 (.fieldAddr 3 (.t 2)),
oT 24 26 (.load none (.t 25)),
oT 24 27 (.fieldAddr 3 (.t 3)),
oT 24 28 (.load none (.t 27)),
oT 24 29 (.call false (.f 59) [(.t 26), (.t 28)]),
oP 30 24 (.t 29) cF,
oM 31 30,
oT 31 32 (.fieldAddr 4 (.t 2)),
oT 31 33 (.load none (.t 32)),
oT 31 34 (.fieldAddr 4 (.t 3)),
oT 31 35 (.load none (.t 34)),
oT 31 36 (.call false (.f 53) [(.t 33), (.t 35)]),
oP 37 31 (.t 36) cF,
oM 4 37]))
.ret))
def rd_instr_Same_1 : List RD := [.tmp 4 true none]
theorem ok_instr_Same_1 : fnOk Tryz.prog Tryz.f103 ir_instr_Same_1 rd_instr_Same_1 = true := by kernel_rfl
def S_instr_Same_1 : List AV → List Obj → Option (Prop × AV)
  | [.agg [.int .i64 a0, .int .u64 a1, .int .u64 a2, .imm ty0 a3, .imm (.int .u8) a4], .agg [.int .i64 b0, .int .u64 b1, .int .u64 b2, .imm ty1 b3, .imm (.int .u8) b4]], [] => castO ty0 Y2 a3 fun a3 => castO ty1 Y2 b3 fun b3 => some ((True, .bool (decide (((a0, a1, a2, a3, a4, ()) : VIn) = (b0, b1, b2, b3, b4, ())))))
  | _, _ => none
theorem snd_instr_Same_1 : SoundS Tryz.prog 103 (RoF S_instr_Same_1).sum := by
  refine ro_fn Tryz.func103 ok_instr_Same_1 (env_cons (s := RoF S_acts_Same) snd_acts_Same (env_cons (s := RoF S_bytes_Equal) snd_bytes_Equal (env_nil _))) fun args objs p v e => ?_
  unfold S_instr_Same_1 at e
  split at e
  · rename_i a0 a1 a2 ty0 a3 a4 b0 b1 b2 ty1 b3 b4
    obtain rfl := castO_ty e
    replace e := castO_go e
    obtain rfl := castO_ty e
    replace e := castO_go e
    cases e
    refine ⟨rfl, fun hw ho hp => ?_⟩
    change List Int at a4
    change List Int at b4
    clear hw ho
    repeat' (intro t ht; first | (cases t <;> first | (cases ht; done) | ((try simp only [bn_s] at ht); (try simp only [nd_s] at ht); (try (exfalso; first | contradiction | omega)))) | (refine castG_go ht ?_; clear ht) | (refine ht ?_ ?_ <;> clear ht) | (refine ht.1 ?_ ?_ <;> clear ht) | (refine ht ?_; clear ht))
    all_goals first
      | exact True.intro
      | (refine ⟨congrArg AV.bool ?_, rfl⟩; rw [Bool.eq_iff_iff]; simp only [Bool.and_eq_true, decide_eq_true_eq, beq_iff_eq, Prod.mk.injEq, and_true, and_assoc]; done)
      | (refine ⟨congrArg AV.bool ?_, rfl⟩; simp_all [Bool.and_assoc]; done)
      | (refine ⟨congrArg AV.bool ?_, rfl⟩; rw [Bool.eq_iff_iff]; simp_all [and_assoc]; done)
      | skip
  · cases e
def ir_slices_EqualFunc_api_Ins_api_Ins_api_Ins_api_Ins : IR :=
(.seq
(.keep [0, 1, 2]
(.reg [oD 6 (.mov cF)]))
(.seq
(.seq
(.keep [0, 1, 2]
(.reg [oM 10 0,
oE 11 10,
oM 12 1,
oE 13 12,
oB 14 .neq (.t 11) (.t 13)]))
(.cond (.t 14)
(.seq
(.reg [oD 6 (.mov cF)])
.ret)
.skip))
(.seq
(.seq
(.keep [0, 1, 2]
(.reg [oM 15 0,
oE 16 15,
oD 17 (.mov (cI 0))]))
(.block 0
(.loop
(.seq
(.keep [1, 2, 15, 16, 17]
(.reg [oB 18 .lss (.t 17) (.t 16)]))
(.seq
(.cond (.t 18)
.skip
(.exit 0))
(.seq
(.block 1
(.seq
(.keep [1, 2, 15, 16, 17]
(.reg [oM 19 17,
oI 20 5 15 17,
oK 21 5 20,
oD 8 (.box [.int .i64 0, .int .u64 0, .int .u64 0, .imm Y2 [], .imm (.int .u8) []]),
oM 7 19,
oS 5 8 21]))
(.seq
(.keep [1, 2, 7, 8, 15, 16, 17]
(.reg [oM 22 1,
oM 23 7,
oI 24 5 22 23,
oK 25 5 24,
oD 9 (.box [.int .i64 0, .int .u64 0, .int .u64 0, .imm Y2 [], .imm (.int .u8) []]),
oS 5 9 25]))
(.seq
(.keep [1, 2, 8, 9, 15, 16, 17]
(.reg [oM 26 2,
oK 27 5 8,
oK 28 5 9,
oD 29 (.call false (.t 26) [.t 27, .t 28]),
oD 30 (.un .not (.t 29))]))
(.cond (.t 30)
(.seq
(.reg [oD 6 (.mov cF)])
.ret)
.skip)))))
(.keep [1, 2, 15, 16, 17]
(.reg [oB 31 .add (.t 17) (cI 1),
oM 17 31]))))))))
(.seq
(.keep []
(.reg [oD 6 (.mov cT)]))
.ret))))
def rd_slices_EqualFunc_api_Ins_api_Ins_api_Ins_api_Ins : List RD := [.tmp 6 true none]
theorem ok_slices_EqualFunc_api_Ins_api_Ins_api_Ins_api_Ins : fnOk Tryz.prog Tryz.f102 ir_slices_EqualFunc_api_Ins_api_Ins_api_Ins_api_Ins rd_slices_EqualFunc_api_Ins_api_Ins_api_Ins_api_Ins = true := by kernel_rfl
def S_slices_EqualFunc_api_Ins_api_Ins_api_Ins_api_Ins : List AV → List Obj → Option (Prop × AV)
  | [.imm ty0 a, .imm ty1 b, .fn 103 [] []], [] => castO ty0 Y3 a fun a => castO ty1 Y3 b fun b => some ((True, .bool (decide ((a : List VIn) = b))))
  | _, _ => none
theorem snd_slices_EqualFunc_api_Ins_api_Ins_api_Ins_api_Ins : SoundS Tryz.prog 102 (RoF S_slices_EqualFunc_api_Ins_api_Ins_api_Ins_api_Ins).sum := by
  refine ro_fn Tryz.func102 ok_slices_EqualFunc_api_Ins_api_Ins_api_Ins_api_Ins (env_cons (s := RoF S_instr_Same_1) snd_instr_Same_1 (env_nil _)) fun args objs p v e => ?_
  unfold S_slices_EqualFunc_api_Ins_api_Ins_api_Ins_api_Ins at e
  split at e
  · rename_i ty0 a ty1 b
    obtain rfl := castO_ty e
    replace e := castO_go e
    obtain rfl := castO_ty e
    replace e := castO_go e
    cases e
    refine ⟨rfl, fun hw ho hp => ?_⟩
    change List VIn at a
    change List VIn at b
    have hl : a.length ≤ maxLen := (hw (.imm Y3 a) (by simp)).2
    unfold maxLen at hl
    clear hw ho
    repeat' (intro t ht; first | (cases t <;> first | (cases ht; done) | ((try simp only [bn_s] at ht); (try simp only [nd_s] at ht))) | (refine castG_go ht ?_; clear ht) | (refine ht ?_ ?_ <;> clear ht) | (refine ht.1 ?_ ?_ <;> clear ht) | (refine ht ?_; clear ht))
    all_goals first
      | (have hne : a ≠ b := fun h => (by assumption : ¬ (a.length : Int) = b.length) (by rw [h])
         refine ⟨?_, rfl⟩; rw [decide_eq_false hne]; done)
      | (intro r h1 h2; clear h1; refine h2 ⟨[1, 2, 15, 16, 17], Nat, (fun i => i ≤ a.length ∧ a.take i = b.take i), fun i => [.imm Y3 b, .fn 103 [] [], .imm Y3 a, .int .i64 a.length, .int .i64 i], fun _ => [], fun i => a.length - i, ⟨0, ⟨Nat.zero_le _, rfl⟩, rfl, rfl⟩, ?_⟩; clear h2)
    rintro i ⟨hi, he⟩
    have hl2 : a.length = b.length := by omega
    repeat' (intro t ht; first | (cases t <;> first | (cases ht; done) | ((try simp only [bn_s] at ht); (try simp only [nd_s] at ht); (try (exfalso; first | contradiction | omega)))) | (refine castG_go ht ?_; clear ht) | (refine ht ?_ ?_ <;> clear ht) | (refine ht.1 ?_ ?_ <;> clear ht) | (refine ht ?_; clear ht))
    all_goals (try generalize (Ty.dflt Y3) = od at *)
    all_goals first
      | exact True.intro
      | ((try simp only [nd_s, bn_s, mm_s] at *); omega)
      | (have e := tkAll he (by omega) hl2
         refine ⟨?_, rfl⟩; rw [decide_eq_true e]; done)
      | (have hne : a ≠ b := tkNe (d := od) (i := i) (by assumption)
         refine ⟨?_, rfl⟩; rw [decide_eq_false hne]; done)
      | exact ⟨i + 1, ⟨by omega, tkStep he (by omega) hl2 (d := od) (by assumption)⟩, by (try simp only [nd_s, bn_s, mm_s] at *); omega, rfl, rfl⟩
      | skip
  · cases e
def ir_instr_Same : IR :=
(.seq
(.keep [0, 1]
(.reg [oD 4 (.mov cF)]))
(.seq
(.reg [oM 5 0,
oM 6 1,
oC 7 102 [.t 5, .t 6, .f 103],
oM 4 7])
.ret))
def rd_instr_Same : List RD := [.tmp 4 true none]
theorem ok_instr_Same : fnOk Tryz.prog Tryz.f60 ir_instr_Same rd_instr_Same = true := by kernel_rfl
def S_instr_Same : List AV → List Obj → Option (Prop × AV)
  | [.imm ty0 a, .imm ty1 b], [] => castO ty0 Y3 a fun a => castO ty1 Y3 b fun b => some ((True, .bool (decide ((a : List VIn) = b))))
  | _, _ => none
theorem snd_instr_Same : SoundS Tryz.prog 60 (RoF S_instr_Same).sum := by
  refine ro_fn Tryz.func60 ok_instr_Same (env_cons (s := RoF S_slices_EqualFunc_api_Ins_api_Ins_api_Ins_api_Ins) snd_slices_EqualFunc_api_Ins_api_Ins_api_Ins_api_Ins (env_cons (s := RoF S_instr_Same_1) snd_instr_Same_1 (env_nil _))) fun args objs p v e => ?_
  unfold S_instr_Same at e
  split at e
  · rename_i ty0 a ty1 b
    obtain rfl := castO_ty e
    replace e := castO_go e
    obtain rfl := castO_ty e
    replace e := castO_go e
    cases e
    refine ⟨rfl, fun hw ho hp => ?_⟩
    clear hw ho
    repeat' (intro t ht; first | (cases t <;> first | (cases ht; done) | ((try simp only [bn_s] at ht); (try simp only [nd_s] at ht); (try (exfalso; first | contradiction | omega)))) | (refine castG_go ht ?_; clear ht) | (refine ht ?_ ?_ <;> clear ht) | (refine ht.1 ?_ ?_ <;> clear ht) | (refine ht ?_; clear ht))
    all_goals first
      | exact True.intro
      | exact ⟨rfl, rfl⟩
      | exact rfl
  · cases e
def ir_queue_Same_1_1 : IR :=
(.seq
(.keep [0, 1]
(.reg [oD 2 (.boxv (.t 0)),
oD 3 (.boxv (.t 1)),
oD 4 (.mov cF)]))
(.seq
(.keep [2, 3]
(.reg [oA 5 0 2,
oL 6 5,
oA 7 0 3,
oL 8 7,
oB 9 .eql (.t 6) (.t 8),
oM 10 9,
oT 10 11 (.fieldAddr 1 (.t 2)),
oT 10 12 (.load none (.t 11)),
oT 10 13 (.fieldAddr 1 (.t 3)),
oT 10 14 (.load none (.t 13)),
oT 10 15 (.bin .eql (.t 12) (.t 14)),
oP 16 10 (.t 15) cF,
oM 17 16,
oT 17 18 (.fieldAddr 2 (.t 2)),
oT 17 19 (.load none (.t 18)),
oT 17 20 (.fieldAddr 2 (.t 3)),
oT 17 21 (.load none (.t 20)),
oT 17 22 (.call false (.f 53) [(.t 19), (.t 21)]),
oP 23 17 (.t 22) cF,
oM 4 23]))
.ret))
def rd_queue_Same_1_1 : List RD := [.tmp 4 true none]
theorem ok_queue_Same_1_1 : fnOk Tryz.prog Tryz.f111 ir_queue_Same_1_1 rd_queue_Same_1_1 = true := by kernel_rfl
def S_queue_Same_1_1 : List AV → List Obj → Option (Prop × AV)
  | [.agg [.int .i64 a0, .int .u64 a1, .imm (.int .u8) a2], .agg [.int .i64 b0, .int .u64 b1, .imm (.int .u8) b2]], [] => some ((True, .bool (decide (((a0, a1, a2, ()) : VPr) = (b0, b1, b2, ())))))
  | _, _ => none
theorem snd_queue_Same_1_1 : SoundS Tryz.prog 111 (RoF S_queue_Same_1_1).sum := by
  refine ro_fn Tryz.func111 ok_queue_Same_1_1 (env_cons (s := RoF S_bytes_Equal) snd_bytes_Equal (env_nil _)) fun args objs p v e => ?_
  unfold S_queue_Same_1_1 at e
  split at e
  · rename_i a0 a1 a2 b0 b1 b2
    cases e
    refine ⟨rfl, fun hw ho hp => ?_⟩
    change List Int at a2
    change List Int at b2
    clear hw ho
    repeat' (intro t ht; first | (cases t <;> first | (cases ht; done) | ((try simp only [bn_s] at ht); (try simp only [nd_s] at ht); (try (exfalso; first | contradiction | omega)))) | (refine castG_go ht ?_; clear ht) | (refine ht ?_ ?_ <;> clear ht) | (refine ht.1 ?_ ?_ <;> clear ht) | (refine ht ?_; clear ht))
    all_goals first
      | exact True.intro
      | (refine ⟨congrArg AV.bool ?_, rfl⟩; rw [Bool.eq_iff_iff]; simp only [Bool.and_eq_true, decide_eq_true_eq, beq_iff_eq, Prod.mk.injEq, and_true, and_assoc]; done)
      | (refine ⟨congrArg AV.bool ?_, rfl⟩; simp_all [Bool.and_assoc]; done)
      | (refine ⟨congrArg AV.bool ?_, rfl⟩; rw [Bool.eq_iff_iff]; simp_all [and_assoc]; done)
      | skip
  · cases e
def ir_slices_EqualFunc_api_Prop_api_Prop_api_Prop_api_Prop : IR :=
(.seq
(.keep [0, 1, 2]
(.reg [oD 6 (.mov cF)]))
(.seq
(.seq
(.keep [0, 1, 2]
(.reg [oM 10 0,
oE 11 10,
oM 12 1,
oE 13 12,
oB 14 .neq (.t 11) (.t 13)]))
(.cond (.t 14)
(.seq
(.reg [oD 6 (.mov cF)])
.ret)
.skip))
(.seq
(.seq
(.keep [0, 1, 2]
(.reg [oM 15 0,
oE 16 15,
oD 17 (.mov (cI 0))]))
(.block 0
(.loop
(.seq
(.keep [1, 2, 15, 16, 17]
(.reg [oB 18 .lss (.t 17) (.t 16)]))
(.seq
(.cond (.t 18)
.skip
(.exit 0))
(.seq
(.block 1
(.seq
(.keep [1, 2, 15, 16, 17]
(.reg [oM 19 17,
oI 20 3 15 17,
oK 21 3 20,
oD 8 (.box [.int .i64 0, .int .u64 0, .imm (.int .u8) []]),
oM 7 19,
oS 3 8 21]))
(.seq
(.keep [1, 2, 7, 8, 15, 16, 17]
(.reg [oM 22 1,
oM 23 7,
oI 24 3 22 23,
oK 25 3 24,
oD 9 (.box [.int .i64 0, .int .u64 0, .imm (.int .u8) []]),
oS 3 9 25]))
(.seq
(.keep [1, 2, 8, 9, 15, 16, 17]
(.reg [oM 26 2,
oK 27 3 8,
oK 28 3 9,
oD 29 (.call false (.t 26) [.t 27, .t 28]),
oD 30 (.un .not (.t 29))]))
(.cond (.t 30)
(.seq
(.reg [oD 6 (.mov cF)])
.ret)
.skip)))))
(.keep [1, 2, 15, 16, 17]
(.reg [oB 31 .add (.t 17) (cI 1),
oM 17 31]))))))))
(.seq
(.keep []
(.reg [oD 6 (.mov cT)]))
.ret))))
def rd_slices_EqualFunc_api_Prop_api_Prop_api_Prop_api_Prop : List RD := [.tmp 6 true none]
theorem ok_slices_EqualFunc_api_Prop_api_Prop_api_Prop_api_Prop : fnOk Tryz.prog Tryz.f110 ir_slices_EqualFunc_api_Prop_api_Prop_api_Prop_api_Prop rd_slices_EqualFunc_api_Prop_api_Prop_api_Prop_api_Prop = true := by kernel_rfl
def S_slices_EqualFunc_api_Prop_api_Prop_api_Prop_api_Prop : List AV → List Obj → Option (Prop × AV)
  | [.imm (.cons (.int .i64) (.cons (.int .u64) (.cons (.sl (.int .u8)) .nil))) a, .imm (.cons (.int .i64) (.cons (.int .u64) (.cons (.sl (.int .u8)) .nil))) b, .fn 111 [] []], [] => some ((True, .bool (decide ((a : List VPr) = b))))
  | _, _ => none
theorem snd_slices_EqualFunc_api_Prop_api_Prop_api_Prop_api_Prop : SoundS Tryz.prog 110 (RoF S_slices_EqualFunc_api_Prop_api_Prop_api_Prop_api_Prop).sum := by
  refine ro_fn Tryz.func110 ok_slices_EqualFunc_api_Prop_api_Prop_api_Prop_api_Prop (env_cons (s := RoF S_queue_Same_1_1) snd_queue_Same_1_1 (env_nil _)) fun args objs p v e => ?_
  unfold S_slices_EqualFunc_api_Prop_api_Prop_api_Prop_api_Prop at e
  split at e
  · rename_i a b
    cases e
    refine ⟨rfl, fun hw ho hp => ?_⟩
    change List VPr at a
    change List VPr at b
    have hl : a.length ≤ maxLen := (hw (.imm Y6 a) (by simp)).2
    unfold maxLen at hl
    clear hw ho
    repeat' (intro t ht; first | (cases t <;> first | (cases ht; done) | ((try simp only [bn_s] at ht); (try simp only [nd_s] at ht))) | (refine castG_go ht ?_; clear ht) | (refine ht ?_ ?_ <;> clear ht) | (refine ht.1 ?_ ?_ <;> clear ht) | (refine ht ?_; clear ht))
    all_goals first
      | (have hne : a ≠ b := fun h => (by assumption : ¬ (a.length : Int) = b.length) (by rw [h])
         refine ⟨?_, rfl⟩; rw [decide_eq_false hne]; done)
      | (intro r h1 h2; clear h1; refine h2 ⟨[1, 2, 15, 16, 17], Nat, (fun i => i ≤ a.length ∧ a.take i = b.take i), fun i => [.imm Y6 b, .fn 111 [] [], .imm Y6 a, .int .i64 a.length, .int .i64 i], fun _ => [], fun i => a.length - i, ⟨0, ⟨Nat.zero_le _, rfl⟩, rfl, rfl⟩, ?_⟩; clear h2)
    rintro i ⟨hi, he⟩
    have hl2 : a.length = b.length := by omega
    repeat' (intro t ht; first | (cases t <;> first | (cases ht; done) | ((try simp only [bn_s] at ht); (try simp only [nd_s] at ht); (try (exfalso; first | contradiction | omega)))) | (refine castG_go ht ?_; clear ht) | (refine ht ?_ ?_ <;> clear ht) | (refine ht.1 ?_ ?_ <;> clear ht) | (refine ht ?_; clear ht))
    all_goals (try generalize (Ty.dflt Y6) = od at *)
    all_goals first
      | exact True.intro
      | ((try simp only [nd_s, bn_s, mm_s] at *); omega)
      | (have e := tkAll he (by omega) hl2
         refine ⟨?_, rfl⟩; rw [decide_eq_true e]; done)
      | (have hne : a ≠ b := tkNe (d := od) (i := i) (by assumption)
         refine ⟨?_, rfl⟩; rw [decide_eq_false hne]; done)
      | exact ⟨i + 1, ⟨by omega, tkStep he (by omega) hl2 (d := od) (by assumption)⟩, by (try simp only [nd_s, bn_s, mm_s] at *); omega, rfl, rfl⟩
      | skip
  · cases e
def ir_queue_Same_1 : IR :=
(.seq
(.keep [0, 1]
(.reg [oD 2 (.boxv (.t 0)),
oD 3 (.boxv (.t 1)),
oD 4 (.mov cF)]))
(.seq
(.keep [2, 3]
(.reg [oA 5 0 2,
oL 6 5,
oA 7 0 3,
oL 8 7,
oB 9 .eql (.t 6) (.t 8),
oM 10 9,
oT 10 11 (.fieldAddr 1 (.t 2)),
oT 10 12 (.load none (.t 11)),
oT 10 13 (.fieldAddr 1 (.t 3)),
oT 10 14 (.load none (.t 13)),
oT 10 15 (.bin .eql (.t 12) (.t 14)),
oP 16 10 (.t 15) cF,
oM 17 16,
oT 17 18 (.fieldAddr 2 (.t 2)),
oT 17 19 (.load none (.t 18)),
oT 17 20 (.fieldAddr 2 (.t 3)),
oT 17 21 (.load none (.t 20)),
oT 17 22 (.call false (.f 110) [(.t 19), (.t 21), (.f 111)]),
oP 23 17 (.t 22) cF,
oM 4 23]))
.ret))
def rd_queue_Same_1 : List RD := [.tmp 4 true none]
theorem ok_queue_Same_1 : fnOk Tryz.prog Tryz.f109 ir_queue_Same_1 rd_queue_Same_1 = true := by kernel_rfl
def S_queue_Same_1 : List AV → List Obj → Option (Prop × AV)
  | [.agg [.int .u64 a0, .int .u64 a1, .imm (.cons (.int .i64) (.cons (.int .u64) (.cons (.sl (.int .u8)) .nil))) a2], .agg [.int .u64 b0, .int .u64 b1, .imm (.cons (.int .i64) (.cons (.int .u64) (.cons (.sl (.int .u8)) .nil))) b2]], [] => some ((True, .bool (decide (((a0, a1, a2, ()) : VQu) = (b0, b1, b2, ())))))
  | _, _ => none
theorem snd_queue_Same_1 : SoundS Tryz.prog 109 (RoF S_queue_Same_1).sum := by
  refine ro_fn Tryz.func109 ok_queue_Same_1 (env_cons (s := RoF S_queue_Same_1_1) snd_queue_Same_1_1 (env_cons (s := RoF S_slices_EqualFunc_api_Prop_api_Prop_api_Prop_api_Prop) snd_slices_EqualFunc_api_Prop_api_Prop_api_Prop_api_Prop (env_nil _))) fun args objs p v e => ?_
  unfold S_queue_Same_1 at e
  split at e
  · rename_i a0 a1 a2 b0 b1 b2
    cases e
    refine ⟨rfl, fun hw ho hp => ?_⟩
    clear hw ho
    repeat' (intro t ht; first | (cases t <;> first | (cases ht; done) | ((try simp only [bn_s] at ht); (try simp only [nd_s] at ht); (try (exfalso; first | contradiction | omega)))) | (refine castG_go ht ?_; clear ht) | (refine ht ?_ ?_ <;> clear ht) | (refine ht.1 ?_ ?_ <;> clear ht) | (refine ht ?_; clear ht))
    all_goals first
      | exact True.intro
      | (refine ⟨congrArg AV.bool ?_, rfl⟩; rw [Bool.eq_iff_iff]; simp only [Bool.and_eq_true, decide_eq_true_eq, beq_iff_eq, Prod.mk.injEq, and_true, and_assoc]; done)
      | (refine ⟨congrArg AV.bool ?_, rfl⟩; simp_all [Bool.and_assoc]; done)
      | (refine ⟨congrArg AV.bool ?_, rfl⟩; rw [Bool.eq_iff_iff]; simp_all [and_assoc]; done)
      | skip
  · cases e
def ir_slices_EqualFunc_api_Queue_api_Queue_api_Queue_api_Queue : IR :=
(.seq
(.keep [0, 1, 2]
(.reg [oD 6 (.mov cF)]))
(.seq
(.seq
(.keep [0, 1, 2]
(.reg [oM 10 0,
oE 11 10,
oM 12 1,
oE 13 12,
oB 14 .neq (.t 11) (.t 13)]))
(.cond (.t 14)
(.seq
(.reg [oD 6 (.mov cF)])
.ret)
.skip))
(.seq
(.seq
(.keep [0, 1, 2]
(.reg [oM 15 0,
oE 16 15,
oD 17 (.mov (cI 0))]))
(.block 0
(.loop
(.seq
(.keep [1, 2, 15, 16, 17]
(.reg [oB 18 .lss (.t 17) (.t 16)]))
(.seq
(.cond (.t 18)
.skip
(.exit 0))
(.seq
(.block 1
(.seq
(.keep [1, 2, 15, 16, 17]
(.reg [oM 19 17,
oI 20 3 15 17,
oK 21 3 20,
oD 8 (.box [.int .u64 0, .int .u64 0, .imm Y6 []]),
oM 7 19,
oS 3 8 21]))
(.seq
(.keep [1, 2, 7, 8, 15, 16, 17]
(.reg [oM 22 1,
oM 23 7,
oI 24 3 22 23,
oK 25 3 24,
oD 9 (.box [.int .u64 0, .int .u64 0, .imm Y6 []]),
oS 3 9 25]))
(.seq
(.keep [1, 2, 8, 9, 15, 16, 17]
(.reg [oM 26 2,
oK 27 3 8,
oK 28 3 9,
oD 29 (.call false (.t 26) [.t 27, .t 28]),
oD 30 (.un .not (.t 29))]))
(.cond (.t 30)
(.seq
(.reg [oD 6 (.mov cF)])
.ret)
.skip)))))
(.keep [1, 2, 15, 16, 17]
(.reg [oB 31 .add (.t 17) (cI 1),
oM 17 31]))))))))
(.seq
(.keep []
(.reg [oD 6 (.mov cT)]))
.ret))))
def rd_slices_EqualFunc_api_Queue_api_Queue_api_Queue_api_Queue : List RD := [.tmp 6 true none]
theorem ok_slices_EqualFunc_api_Queue_api_Queue_api_Queue_api_Queue : fnOk Tryz.prog Tryz.f108 ir_slices_EqualFunc_api_Queue_api_Queue_api_Queue_api_Queue rd_slices_EqualFunc_api_Queue_api_Queue_api_Queue_api_Queue = true := by kernel_rfl
def S_slices_EqualFunc_api_Queue_api_Queue_api_Queue_api_Queue : List AV → List Obj → Option (Prop × AV)
  | [.imm (.cons (.int .u64) (.cons (.int .u64) (.cons (.sl (.cons (.int .i64) (.cons (.int .u64) (.cons (.sl (.int .u8)) .nil)))) .nil))) a, .imm (.cons (.int .u64) (.cons (.int .u64) (.cons (.sl (.cons (.int .i64) (.cons (.int .u64) (.cons (.sl (.int .u8)) .nil)))) .nil))) b, .fn 109 [] []], [] => some ((True, .bool (decide ((a : List VQu) = b))))
  | _, _ => none
theorem snd_slices_EqualFunc_api_Queue_api_Queue_api_Queue_api_Queue : SoundS Tryz.prog 108 (RoF S_slices_EqualFunc_api_Queue_api_Queue_api_Queue_api_Queue).sum := by
  refine ro_fn Tryz.func108 ok_slices_EqualFunc_api_Queue_api_Queue_api_Queue_api_Queue (env_cons (s := RoF S_queue_Same_1) snd_queue_Same_1 (env_nil _)) fun args objs p v e => ?_
  unfold S_slices_EqualFunc_api_Queue_api_Queue_api_Queue_api_Queue at e
  split at e
  · rename_i a b
    cases e
    refine ⟨rfl, fun hw ho hp => ?_⟩
    change List VQu at a
    change List VQu at b
    have hl : a.length ≤ maxLen := (hw (.imm Y7 a) (by simp)).2
    unfold maxLen at hl
    clear hw ho
    repeat' (intro t ht; first | (cases t <;> first | (cases ht; done) | ((try simp only [bn_s] at ht); (try simp only [nd_s] at ht))) | (refine castG_go ht ?_; clear ht) | (refine ht ?_ ?_ <;> clear ht) | (refine ht.1 ?_ ?_ <;> clear ht) | (refine ht ?_; clear ht))
    all_goals first
      | (have hne : a ≠ b := fun h => (by assumption : ¬ (a.length : Int) = b.length) (by rw [h])
         refine ⟨?_, rfl⟩; rw [decide_eq_false hne]; done)
      | (intro r h1 h2; clear h1; refine h2 ⟨[1, 2, 15, 16, 17], Nat, (fun i => i ≤ a.length ∧ a.take i = b.take i), fun i => [.imm Y7 b, .fn 109 [] [], .imm Y7 a, .int .i64 a.length, .int .i64 i], fun _ => [], fun i => a.length - i, ⟨0, ⟨Nat.zero_le _, rfl⟩, rfl, rfl⟩, ?_⟩; clear h2)
    rintro i ⟨hi, he⟩
    have hl2 : a.length = b.length := by omega
    repeat' (intro t ht; first | (cases t <;> first | (cases ht; done) | ((try simp only [bn_s] at ht); (try simp only [nd_s] at ht); (try (exfalso; first | contradiction | omega)))) | (refine castG_go ht ?_; clear ht) | (refine ht ?_ ?_ <;> clear ht) | (refine ht.1 ?_ ?_ <;> clear ht) | (refine ht ?_; clear ht))
    all_goals (try generalize (Ty.dflt Y7) = od at *)
    all_goals first
      | exact True.intro
      | ((try simp only [nd_s, bn_s, mm_s] at *); omega)
      | (have e := tkAll he (by omega) hl2
         refine ⟨?_, rfl⟩; rw [decide_eq_true e]; done)
      | (have hne : a ≠ b := tkNe (d := od) (i := i) (by assumption)
         refine ⟨?_, rfl⟩; rw [decide_eq_false hne]; done)
      | exact ⟨i + 1, ⟨by omega, tkStep he (by omega) hl2 (d := od) (by assumption)⟩, by (try simp only [nd_s, bn_s, mm_s] at *); omega, rfl, rfl⟩
      | skip
  · cases e
def ir_queue_Same : IR :=
(.seq
(.keep [0, 1]
(.reg [oD 4 (.mov cF)]))
(.seq
(.reg [oM 5 0,
oM 6 1,
oC 7 108 [.t 5, .t 6, .f 109],
oM 4 7])
.ret))
def rd_queue_Same : List RD := [.tmp 4 true none]
theorem ok_queue_Same : fnOk Tryz.prog Tryz.f63 ir_queue_Same rd_queue_Same = true := by kernel_rfl
def S_queue_Same : List AV → List Obj → Option (Prop × AV)
  | [.imm (.cons (.int .u64) (.cons (.int .u64) (.cons (.sl (.cons (.int .i64) (.cons (.int .u64) (.cons (.sl (.int .u8)) .nil)))) .nil))) a, .imm (.cons (.int .u64) (.cons (.int .u64) (.cons (.sl (.cons (.int .i64) (.cons (.int .u64) (.cons (.sl (.int .u8)) .nil)))) .nil))) b], [] => some ((True, .bool (decide ((a : List VQu) = b))))
  | _, _ => none
theorem snd_queue_Same : SoundS Tryz.prog 63 (RoF S_queue_Same).sum := by
  refine ro_fn Tryz.func63 ok_queue_Same (env_cons (s := RoF S_slices_EqualFunc_api_Queue_api_Queue_api_Queue_api_Queue) snd_slices_EqualFunc_api_Queue_api_Queue_api_Queue_api_Queue (env_cons (s := RoF S_queue_Same_1) snd_queue_Same_1 (env_nil _))) fun args objs p v e => ?_
  unfold S_queue_Same at e
  split at e
  · rename_i a b
    cases e
    refine ⟨rfl, fun hw ho hp => ?_⟩
    clear hw ho
    repeat' (intro t ht; first | (cases t <;> first | (cases ht; done) | ((try simp only [bn_s] at ht); (try simp only [nd_s] at ht); (try (exfalso; first | contradiction | omega)))) | (refine castG_go ht ?_; clear ht) | (refine ht ?_ ?_ <;> clear ht) | (refine ht.1 ?_ ?_ <;> clear ht) | (refine ht ?_; clear ht))
    all_goals first
      | exact True.intro
      | exact ⟨rfl, rfl⟩
      | exact rfl
  · cases e
def ir_feature_sameTable_1 : IR :=
(.seq
(.keep [0, 1]
(.reg [oD 2 (.boxv (.t 0)),
oD 3 (.boxv (.t 1)),
oD 4 (.mov cF)]))
(.seq
(.keep [2, 3]
(.reg [oA 5 0 2,
oL 6 5,
oA 7 0 3,
oL 8 7,
oB 9 .eql (.t 6) (.t 8),
oM 10 9,
oT 10 11 (.fieldAddr 1 (.t 2)),
oT 10 12 (.load none (.t 11)),
oT 10 13 (.fieldAddr 1 (.t 3)),
oT 10 14 (.load none (.t 13)),
oT 10 15 (.call false (.f 52) [(.t 12), (.t 14)]),
oP 16 10 (.t 15) cF,
oM 17 16,
oT 17 18 (.fieldAddr 2 (.t 2)),
oT 17 19 (.load none (.t 18)),
oT 17 20 (.fieldAddr 2 (.t 3)),
oT 17 21 (.load none (.t 20)),
oT 17 22 (.call false (.f 53) [(.t 19), (.t 21)]),
oP 23 17 (.t 22) cF,
oM 4 23]))
.ret))
def rd_feature_sameTable_1 : List RD := [.tmp 4 true none]
theorem ok_feature_sameTable_1 : fnOk Tryz.prog Tryz.f152 ir_feature_sameTable_1 rd_feature_sameTable_1 = true := by kernel_rfl
def S_feature_sameTable_1 : List AV → List Obj → Option (Prop × AV)
  | [.agg [.int .i64 a0, .imm (.int .u64) a1, .imm (.int .u8) a2], .agg [.int .i64 b0, .imm (.int .u64) b1, .imm (.int .u8) b2]], [] => some ((True, .bool (decide (((a0, a1, a2, ()) : VFe) = (b0, b1, b2, ())))))
  | _, _ => none
theorem snd_feature_sameTable_1 : SoundS Tryz.prog 152 (RoF S_feature_sameTable_1).sum := by
  refine ro_fn Tryz.func152 ok_feature_sameTable_1 (env_cons (s := RoF S_slices_Equal_uint64_uint64) snd_slices_Equal_uint64_uint64 (env_cons (s := RoF S_bytes_Equal) snd_bytes_Equal (env_nil _))) fun args objs p v e => ?_
  unfold S_feature_sameTable_1 at e
  split at e
  · rename_i a0 a1 a2 b0 b1 b2
    cases e
    refine ⟨rfl, fun hw ho hp => ?_⟩
    change List Int at a1
    change List Int at a2
    change List Int at b1
    change List Int at b2
    clear hw ho
    repeat' (intro t ht; first | (cases t <;> first | (cases ht; done) | ((try simp only [bn_s] at ht); (try simp only [nd_s] at ht); (try (exfalso; first | contradiction | omega)))) | (refine castG_go ht ?_; clear ht) | (refine ht ?_ ?_ <;> clear ht) | (refine ht.1 ?_ ?_ <;> clear ht) | (refine ht ?_; clear ht))
    all_goals first
      | exact True.intro
      | (refine ⟨congrArg AV.bool ?_, rfl⟩; rw [Bool.eq_iff_iff]; simp only [Bool.and_eq_true, decide_eq_true_eq, beq_iff_eq, Prod.mk.injEq, and_true, and_assoc]; done)
      | (refine ⟨congrArg AV.bool ?_, rfl⟩; simp_all [Bool.and_assoc]; done)
      | (refine ⟨congrArg AV.bool ?_, rfl⟩; rw [Bool.eq_iff_iff]; simp_all [and_assoc]; done)
      | skip
  · cases e
def ir_slices_EqualFunc_api_Feat_api_Feat_api_Feat_api_Feat : IR :=
(.seq
(.keep [0, 1, 2]
(.reg [oD 6 (.mov cF)]))
(.seq
(.seq
(.keep [0, 1, 2]
(.reg [oM 10 0,
oE 11 10,
oM 12 1,
oE 13 12,
oB 14 .neq (.t 11) (.t 13)]))
(.cond (.t 14)
(.seq
(.reg [oD 6 (.mov cF)])
.ret)
.skip))
(.seq
(.seq
(.keep [0, 1, 2]
(.reg [oM 15 0,
oE 16 15,
oD 17 (.mov (cI 0))]))
(.block 0
(.loop
(.seq
(.keep [1, 2, 15, 16, 17]
(.reg [oB 18 .lss (.t 17) (.t 16)]))
(.seq
(.cond (.t 18)
.skip
(.exit 0))
(.seq
(.block 1
(.seq
(.keep [1, 2, 15, 16, 17]
(.reg [oM 19 17,
oI 20 3 15 17,
oK 21 3 20,
oD 8 (.box [.int .i64 0, .imm (.int .u64) [], .imm (.int .u8) []]),
oM 7 19,
oS 3 8 21]))
(.seq
(.keep [1, 2, 7, 8, 15, 16, 17]
(.reg [oM 22 1,
oM 23 7,
oI 24 3 22 23,
oK 25 3 24,
oD 9 (.box [.int .i64 0, .imm (.int .u64) [], .imm (.int .u8) []]),
oS 3 9 25]))
(.seq
(.keep [1, 2, 8, 9, 15, 16, 17]
(.reg [oM 26 2,
oK 27 3 8,
oK 28 3 9,
oD 29 (.call false (.t 26) [.t 27, .t 28]),
oD 30 (.un .not (.t 29))]))
(.cond (.t 30)
(.seq
(.reg [oD 6 (.mov cF)])
.ret)
.skip)))))
(.keep [1, 2, 15, 16, 17]
(.reg [oB 31 .add (.t 17) (cI 1),
oM 17 31]))))))))
(.seq
(.keep []
(.reg [oD 6 (.mov cT)]))
.ret))))
def rd_slices_EqualFunc_api_Feat_api_Feat_api_Feat_api_Feat : List RD := [.tmp 6 true none]
theorem ok_slices_EqualFunc_api_Feat_api_Feat_api_Feat_api_Feat : fnOk Tryz.prog Tryz.f151 ir_slices_EqualFunc_api_Feat_api_Feat_api_Feat_api_Feat rd_slices_EqualFunc_api_Feat_api_Feat_api_Feat_api_Feat = true := by kernel_rfl
def S_slices_EqualFunc_api_Feat_api_Feat_api_Feat_api_Feat : List AV → List Obj → Option (Prop × AV)
  | [.imm (.cons (.int .i64) (.cons (.sl (.int .u64)) (.cons (.sl (.int .u8)) .nil))) a, .imm (.cons (.int .i64) (.cons (.sl (.int .u64)) (.cons (.sl (.int .u8)) .nil))) b, .fn 152 [] []], [] => some ((True, .bool (decide ((a : List VFe) = b))))
  | _, _ => none
theorem snd_slices_EqualFunc_api_Feat_api_Feat_api_Feat_api_Feat : SoundS Tryz.prog 151 (RoF S_slices_EqualFunc_api_Feat_api_Feat_api_Feat_api_Feat).sum := by
  refine ro_fn Tryz.func151 ok_slices_EqualFunc_api_Feat_api_Feat_api_Feat_api_Feat (env_cons (s := RoF S_feature_sameTable_1) snd_feature_sameTable_1 (env_nil _)) fun args objs p v e => ?_
  unfold S_slices_EqualFunc_api_Feat_api_Feat_api_Feat_api_Feat at e
  split at e
  · rename_i a b
    cases e
    refine ⟨rfl, fun hw ho hp => ?_⟩
    change List VFe at a
    change List VFe at b
    have hl : a.length ≤ maxLen := (hw (.imm Y9 a) (by simp)).2
    unfold maxLen at hl
    clear hw ho
    repeat' (intro t ht; first | (cases t <;> first | (cases ht; done) | ((try simp only [bn_s] at ht); (try simp only [nd_s] at ht))) | (refine castG_go ht ?_; clear ht) | (refine ht ?_ ?_ <;> clear ht) | (refine ht.1 ?_ ?_ <;> clear ht) | (refine ht ?_; clear ht))
    all_goals first
      | (have hne : a ≠ b := fun h => (by assumption : ¬ (a.length : Int) = b.length) (by rw [h])
         refine ⟨?_, rfl⟩; rw [decide_eq_false hne]; done)
      | (intro r h1 h2; clear h1; refine h2 ⟨[1, 2, 15, 16, 17], Nat, (fun i => i ≤ a.length ∧ a.take i = b.take i), fun i => [.imm Y9 b, .fn 152 [] [], .imm Y9 a, .int .i64 a.length, .int .i64 i], fun _ => [], fun i => a.length - i, ⟨0, ⟨Nat.zero_le _, rfl⟩, rfl, rfl⟩, ?_⟩; clear h2)
    rintro i ⟨hi, he⟩
    have hl2 : a.length = b.length := by omega
    repeat' (intro t ht; first | (cases t <;> first | (cases ht; done) | ((try simp only [bn_s] at ht); (try simp only [nd_s] at ht); (try (exfalso; first | contradiction | omega)))) | (refine castG_go ht ?_; clear ht) | (refine ht ?_ ?_ <;> clear ht) | (refine ht.1 ?_ ?_ <;> clear ht) | (refine ht ?_; clear ht))
    all_goals (try generalize (Ty.dflt Y9) = od at *)
    all_goals first
      | exact True.intro
      | ((try simp only [nd_s, bn_s, mm_s] at *); omega)
      | (have e := tkAll he (by omega) hl2
         refine ⟨?_, rfl⟩; rw [decide_eq_true e]; done)
      | (have hne : a ≠ b := tkNe (d := od) (i := i) (by assumption)
         refine ⟨?_, rfl⟩; rw [decide_eq_false hne]; done)
      | exact ⟨i + 1, ⟨by omega, tkStep he (by omega) hl2 (d := od) (by assumption)⟩, by (try simp only [nd_s, bn_s, mm_s] at *); omega, rfl, rfl⟩
      | skip
  · cases e
def ir_feature_sameTable : IR :=
(.seq
(.keep [0, 1]
(.reg [oD 2 (.boxv (.t 0)),
oD 3 (.boxv (.t 1)),
oD 4 (.mov cF)]))
(.seq
(.seq
(.keep [2, 3]
(.reg [oA 5 0 2,
oL 6 5,
oA 7 0 3,
oL 8 7,
oB 9 .neq (.t 6) (.t 8),
oM 10 9,
oF 10 11 (.fieldAddr 1 (.t 2)),
oF 10 12 (.load none (.t 11)),
oF 10 13 (.fieldAddr 1 (.t 3)),
oF 10 14 (.load none (.t 13)),
oF 10 15 (.bin .neq (.t 12) (.t 14)),
oP 16 10 cT (.t 15),
oM 17 16,
oF 17 18 (.fieldAddr 2 (.t 2)),
oF 17 19 (.load none (.t 18)),
oF 17 20 (.fieldAddr 2 (.t 3)),
oF 17 21 (.load none (.t 20)),
oF 17 22 (.bin .neq (.t 19) (.t 21)),
oP 23 17 cT (.t 22),
oM 24 23,
oF 24 25 (.fieldAddr 3 (.t 2)),
oF 24 26 (.load none (.t 25)),
oF 24 27 (.fieldAddr 3 (.t 3)),
oF 24 28 (.load none (.t 27)),
oF 24 29 (.bin .neq (.t 26) (.t 28)),
oP 30 24 cT (.t 29),
oM 31 30,
oF 31 32 (.fieldAddr 4 (.t 2)),
oF 31 33 (.load none (.t 32)),
oF 31 34 (.fieldAddr 4 (.t 3)),
oF 31 35 (.load none (.t 34)),
oF 31 36 (.bin .neq (.t 33) (.t 35)),
oP 37 31 cT (.t 36),
oM 38 37,
oF 38 39 (.fieldAddr 5 (.t 2)),
oF 38 40 (.load none (.t 39)),
oF 38 41 (.fieldAddr 5 (.t 3)),
oF 38 42 (.load none (.t 41)),
oF 38 43 (.bin .neq (.t 40) (.t 42)),
oP 44 38 cT (.t 43)]))
(.cond (.t 44)
(.seq
(.keep []
(.reg [oD 4 (.mov cF)]))
.ret)
.skip))
(.seq
(.keep [2, 3]
(.reg [oA 45 6 2,
oL 46 45,
oA 47 6 3,
oL 48 47,
oC 49 151 [.t 46, .t 48, .f 152],
oM 4 49]))
.ret)))
def rd_feature_sameTable : List RD := [.tmp 4 true none]
theorem ok_feature_sameTable : fnOk Tryz.prog Tryz.f135 ir_feature_sameTable rd_feature_sameTable = true := by kernel_rfl
def S_feature_sameTable : List AV → List Obj → Option (Prop × AV)
  | [.agg [.int .u64 a0, .str a1, .int .u64 a2, .int .u64 a3, .int .u64 a4, .int .u64 a5, .imm (.cons (.int .i64) (.cons (.sl (.int .u64)) (.cons (.sl (.int .u8)) .nil))) a6], .agg [.int .u64 b0, .str b1, .int .u64 b2, .int .u64 b3, .int .u64 b4, .int .u64 b5, .imm (.cons (.int .i64) (.cons (.sl (.int .u64)) (.cons (.sl (.int .u8)) .nil))) b6]], [] => some ((True, .bool (decide (((a0, a1, a2, a3, a4, a5, a6, ()) : VTb) = (b0, b1, b2, b3, b4, b5, b6, ())))))
  | _, _ => none
theorem snd_feature_sameTable : SoundS Tryz.prog 135 (RoF S_feature_sameTable).sum := by
  refine ro_fn Tryz.func135 ok_feature_sameTable (env_cons (s := RoF S_slices_EqualFunc_api_Feat_api_Feat_api_Feat_api_Feat) snd_slices_EqualFunc_api_Feat_api_Feat_api_Feat_api_Feat (env_cons (s := RoF S_feature_sameTable_1) snd_feature_sameTable_1 (env_nil _))) fun args objs p v e => ?_
  unfold S_feature_sameTable at e
  split at e
  · rename_i a0 a1 a2 a3 a4 a5 a6 b0 b1 b2 b3 b4 b5 b6
    cases e
    refine ⟨rfl, fun hw ho hp => ?_⟩
    clear hw ho
    repeat' (intro t ht; first | (cases t <;> first | (cases ht; done) | ((try simp only [bn_s] at ht); (try simp only [nd_s] at ht); (try (exfalso; first | contradiction | omega)))) | (refine castG_go ht ?_; clear ht) | (refine ht ?_ ?_ <;> clear ht) | (refine ht.1 ?_ ?_ <;> clear ht) | (refine ht ?_; clear ht))
    all_goals first
      | exact True.intro
      | (refine ⟨congrArg AV.bool ?_, rfl⟩; rw [Bool.eq_iff_iff]; simp only [Bool.and_eq_true, decide_eq_true_eq, beq_iff_eq, Prod.mk.injEq, and_true, and_assoc]; done)
      | (refine ⟨congrArg AV.bool ?_, rfl⟩; simp_all [Bool.and_assoc]; done)
      | (refine ⟨congrArg AV.bool ?_, rfl⟩; rw [Bool.eq_iff_iff]; simp_all [and_assoc]; done)
      | skip
  · cases e
def ir_feature_Same_1 : IR :=
(.seq
(.keep [0, 1]
(.reg [oD 2 (.boxv (.t 0)),
oD 3 (.boxv (.t 1)),
oD 4 (.mov cF)]))
(.seq
(.reg [oK 5 7 2,
oK 6 7 3,
oC 7 135 [.t 5, .t 6],
oM 4 7])
.ret))
def rd_feature_Same_1 : List RD := [.tmp 4 true none]
theorem ok_feature_Same_1 : fnOk Tryz.prog Tryz.f134 ir_feature_Same_1 rd_feature_Same_1 = true := by kernel_rfl
def S_feature_Same_1 : List AV → List Obj → Option (Prop × AV)
  | [.agg [.int .u64 a0, .str a1, .int .u64 a2, .int .u64 a3, .int .u64 a4, .int .u64 a5, .imm (.cons (.int .i64) (.cons (.sl (.int .u64)) (.cons (.sl (.int .u8)) .nil))) a6], .agg [.int .u64 b0, .str b1, .int .u64 b2, .int .u64 b3, .int .u64 b4, .int .u64 b5, .imm (.cons (.int .i64) (.cons (.sl (.int .u64)) (.cons (.sl (.int .u8)) .nil))) b6]], [] => some ((True, .bool (decide (((a0, a1, a2, a3, a4, a5, a6, ()) : VTb) = (b0, b1, b2, b3, b4, b5, b6, ())))))
  | _, _ => none
theorem snd_feature_Same_1 : SoundS Tryz.prog 134 (RoF S_feature_Same_1).sum := by
  refine ro_fn Tryz.func134 ok_feature_Same_1 (env_cons (s := RoF S_feature_sameTable) snd_feature_sameTable (env_nil _)) fun args objs p v e => ?_
  unfold S_feature_Same_1 at e
  split at e
  · rename_i a0 a1 a2 a3 a4 a5 a6 b0 b1 b2 b3 b4 b5 b6
    cases e
    refine ⟨rfl, fun hw ho hp => ?_⟩
    clear hw ho
    repeat' (intro t ht; first | (cases t <;> first | (cases ht; done) | ((try simp only [bn_s] at ht); (try simp only [nd_s] at ht); (try (exfalso; first | contradiction | omega)))) | (refine castG_go ht ?_; clear ht) | (refine ht ?_ ?_ <;> clear ht) | (refine ht.1 ?_ ?_ <;> clear ht) | (refine ht ?_; clear ht))
    all_goals first
      | exact True.intro
      | (refine ⟨congrArg AV.bool ?_, rfl⟩; rw [Bool.eq_iff_iff]; simp only [Bool.and_eq_true, decide_eq_true_eq, beq_iff_eq, Prod.mk.injEq, and_true, and_assoc]; done)
      | (refine ⟨congrArg AV.bool ?_, rfl⟩; simp_all [Bool.and_assoc]; done)
      | (refine ⟨congrArg AV.bool ?_, rfl⟩; rw [Bool.eq_iff_iff]; simp_all [and_assoc]; done)
      | skip
  · cases e
def ir_slices_EqualFunc_api_Table_api_Table_api_Table_api_Table : IR :=
(.seq
(.keep [0, 1, 2]
(.reg [oD 6 (.mov cF)]))
(.seq
(.seq
(.keep [0, 1, 2]
(.reg [oM 10 0,
oE 11 10,
oM 12 1,
oE 13 12,
oB 14 .neq (.t 11) (.t 13)]))
(.cond (.t 14)
(.seq
(.reg [oD 6 (.mov cF)])
.ret)
.skip))
(.seq
(.seq
(.keep [0, 1, 2]
(.reg [oM 15 0,
oE 16 15,
oD 17 (.mov (cI 0))]))
(.block 0
(.loop
(.seq
(.keep [1, 2, 15, 16, 17]
(.reg [oB 18 .lss (.t 17) (.t 16)]))
(.seq
(.cond (.t 18)
.skip
(.exit 0))
(.seq
(.block 1
(.seq
(.keep [1, 2, 15, 16, 17]
(.reg [oM 19 17,
oI 20 7 15 17,
oK 21 7 20,
oD 8 (.box [.int .u64 0, .str [], .int .u64 0, .int .u64 0, .int .u64 0, .int .u64 0, .imm Y9 []]),
oM 7 19,
oS 7 8 21]))
(.seq
(.keep [1, 2, 7, 8, 15, 16, 17]
(.reg [oM 22 1,
oM 23 7,
oI 24 7 22 23,
oK 25 7 24,
oD 9 (.box [.int .u64 0, .str [], .int .u64 0, .int .u64 0, .int .u64 0, .int .u64 0, .imm Y9 []]),
oS 7 9 25]))
(.seq
(.keep [1, 2, 8, 9, 15, 16, 17]
(.reg [oM 26 2,
oK 27 7 8,
oK 28 7 9,
oD 29 (.call false (.t 26) [.t 27, .t 28]),
oD 30 (.un .not (.t 29))]))
(.cond (.t 30)
(.seq
(.reg [oD 6 (.mov cF)])
.ret)
.skip)))))
(.keep [1, 2, 15, 16, 17]
(.reg [oB 31 .add (.t 17) (cI 1),
oM 17 31]))))))))
(.seq
(.keep []
(.reg [oD 6 (.mov cT)]))
.ret))))
def rd_slices_EqualFunc_api_Table_api_Table_api_Table_api_Table : List RD := [.tmp 6 true none]
theorem ok_slices_EqualFunc_api_Table_api_Table_api_Table_api_Table : fnOk Tryz.prog Tryz.f133 ir_slices_EqualFunc_api_Table_api_Table_api_Table_api_Table rd_slices_EqualFunc_api_Table_api_Table_api_Table_api_Table = true := by kernel_rfl
def S_slices_EqualFunc_api_Table_api_Table_api_Table_api_Table : List AV → List Obj → Option (Prop × AV)
  | [.imm ty0 a, .imm ty1 b, .fn 134 [] []], [] => castO ty0 YA a fun a => castO ty1 YA b fun b => some ((True, .bool (decide ((a : List VTb) = b))))
  | _, _ => none
theorem snd_slices_EqualFunc_api_Table_api_Table_api_Table_api_Table : SoundS Tryz.prog 133 (RoF S_slices_EqualFunc_api_Table_api_Table_api_Table_api_Table).sum := by
  refine ro_fn Tryz.func133 ok_slices_EqualFunc_api_Table_api_Table_api_Table_api_Table (env_cons (s := RoF S_feature_Same_1) snd_feature_Same_1 (env_nil _)) fun args objs p v e => ?_
  unfold S_slices_EqualFunc_api_Table_api_Table_api_Table_api_Table at e
  split at e
  · rename_i ty0 a ty1 b
    obtain rfl := castO_ty e
    replace e := castO_go e
    obtain rfl := castO_ty e
    replace e := castO_go e
    cases e
    refine ⟨rfl, fun hw ho hp => ?_⟩
    change List VTb at a
    change List VTb at b
    have hl : a.length ≤ maxLen := (hw (.imm YA a) (by simp)).2
    unfold maxLen at hl
    clear hw ho
    repeat' (intro t ht; first | (cases t <;> first | (cases ht; done) | ((try simp only [bn_s] at ht); (try simp only [nd_s] at ht))) | (refine castG_go ht ?_; clear ht) | (refine ht ?_ ?_ <;> clear ht) | (refine ht.1 ?_ ?_ <;> clear ht) | (refine ht ?_; clear ht))
    all_goals first
      | (have hne : a ≠ b := fun h => (by assumption : ¬ (a.length : Int) = b.length) (by rw [h])
         refine ⟨?_, rfl⟩; rw [decide_eq_false hne]; done)
      | (intro r h1 h2; clear h1; refine h2 ⟨[1, 2, 15, 16, 17], Nat, (fun i => i ≤ a.length ∧ a.take i = b.take i), fun i => [.imm YA b, .fn 134 [] [], .imm YA a, .int .i64 a.length, .int .i64 i], fun _ => [], fun i => a.length - i, ⟨0, ⟨Nat.zero_le _, rfl⟩, rfl, rfl⟩, ?_⟩; clear h2)
    rintro i ⟨hi, he⟩
    have hl2 : a.length = b.length := by omega
    repeat' (intro t ht; first | (cases t <;> first | (cases ht; done) | ((try simp only [bn_s] at ht); (try simp only [nd_s] at ht); (try (exfalso; first | contradiction | omega)))) | (refine castG_go ht ?_; clear ht) | (refine ht ?_ ?_ <;> clear ht) | (refine ht.1 ?_ ?_ <;> clear ht) | (refine ht ?_; clear ht))
    all_goals (try generalize (Ty.dflt YA) = od at *)
    all_goals first
      | exact True.intro
      | ((try simp only [nd_s, bn_s, mm_s] at *); omega)
      | (have e := tkAll he (by omega) hl2
         refine ⟨?_, rfl⟩; rw [decide_eq_true e]; done)
      | (have hne : a ≠ b := tkNe (d := od) (i := i) (by assumption)
         refine ⟨?_, rfl⟩; rw [decide_eq_false hne]; done)
      | exact ⟨i + 1, ⟨by omega, tkStep he (by omega) hl2 (d := od) (by assumption)⟩, by (try simp only [nd_s, bn_s, mm_s] at *); omega, rfl, rfl⟩
      | skip
  · cases e
def ir_feature_Same : IR :=
(.seq
(.keep [0, 1]
(.reg [oD 4 (.mov cF)]))
(.seq
(.reg [oM 5 0,
oM 6 1,
oC 7 133 [.t 5, .t 6, .f 134],
oM 4 7])
.ret))
def rd_feature_Same : List RD := [.tmp 4 true none]
theorem ok_feature_Same : fnOk Tryz.prog Tryz.f97 ir_feature_Same rd_feature_Same = true := by kernel_rfl
def S_feature_Same : List AV → List Obj → Option (Prop × AV)
  | [.imm ty0 a, .imm ty1 b], [] => castO ty0 YA a fun a => castO ty1 YA b fun b => some ((True, .bool (decide ((a : List VTb) = b))))
  | _, _ => none
theorem snd_feature_Same : SoundS Tryz.prog 97 (RoF S_feature_Same).sum := by
  refine ro_fn Tryz.func97 ok_feature_Same (env_cons (s := RoF S_slices_EqualFunc_api_Table_api_Table_api_Table_api_Table) snd_slices_EqualFunc_api_Table_api_Table_api_Table_api_Table (env_cons (s := RoF S_feature_Same_1) snd_feature_Same_1 (env_nil _))) fun args objs p v e => ?_
  unfold S_feature_Same at e
  split at e
  · rename_i ty0 a ty1 b
    obtain rfl := castO_ty e
    replace e := castO_go e
    obtain rfl := castO_ty e
    replace e := castO_go e
    cases e
    refine ⟨rfl, fun hw ho hp => ?_⟩
    clear hw ho
    repeat' (intro t ht; first | (cases t <;> first | (cases ht; done) | ((try simp only [bn_s] at ht); (try simp only [nd_s] at ht); (try (exfalso; first | contradiction | omega)))) | (refine castG_go ht ?_; clear ht) | (refine ht ?_ ?_ <;> clear ht) | (refine ht.1 ?_ ?_ <;> clear ht) | (refine ht ?_; clear ht))
    all_goals first
      | exact True.intro
      | exact ⟨rfl, rfl⟩
      | exact rfl
  · cases e
def ir_bucket_Same_1 : IR :=
(.seq
(.keep [0, 1]
(.reg [oD 2 (.boxv (.t 0)),
oD 3 (.boxv (.t 1)),
oD 4 (.mov cF)]))
(.seq
(.keep [2, 3]
(.reg [oA 5 0 2,
oL 6 5,
oA 7 0 3,
oL 8 7,
oB 9 .eql (.t 6) (.t 8),
oM 10 9,
oT 10 11 (.fieldAddr 1 (.t 2)),
oT 10 12 (.load none (.t 11)),
oT 10 13 (.fieldAddr 1 (.t 3)),
oT 10 14 (.load none (.t 13)),
oT 10 15 (.bin .eql (.t 12) (.t 14)),
oP 16 10 (.t 15) cF,
oM 17 16,
oT 17 18 (.fieldAddr 2 (.t 2)),
oT 17 19 (.load none (.t 18)),
oT 17 20 (.fieldAddr 2 (.t 3)),
oT 17 21 (.load none (.t 20)),
oT 17 22 (.bin .eql (.t 19) (.t 21)),
oP 23 17 (.t 22) cF,
oM 24 23,
oT 24 25 (.fieldAddr 3 (.t 2)),
oT 24 26 (.load none (.t 25)),
oT 24 27 (.fieldAddr 3 (.t 3)),
oT 24 28 (.load none (.t 27)),
oT 24 29 (.call false (.f 59) [(.t 26), (.t 28)]),
oP 30 24 (.t 29) cF,
oM 4 30]))
.ret))
def rd_bucket_Same_1 : List RD := [.tmp 4 true none]
theorem ok_bucket_Same_1 : fnOk Tryz.prog Tryz.f105 ir_bucket_Same_1 rd_bucket_Same_1 = true := by kernel_rfl
def S_bucket_Same_1 : List AV → List Obj → Option (Prop × AV)
  | [.agg [.int .u64 a0, .int .u64 a1, .int .u64 a2, .imm ty0 a3], .agg [.int .u64 b0, .int .u64 b1, .int .u64 b2, .imm ty1 b3]], [] => castO ty0 Y2 a3 fun a3 => castO ty1 Y2 b3 fun b3 => some ((True, .bool (decide (((a0, a1, a2, a3, ()) : BK) = (b0, b1, b2, b3, ())))))
  | _, _ => none
theorem snd_bucket_Same_1 : SoundS Tryz.prog 105 (RoF S_bucket_Same_1).sum := by
  refine ro_fn Tryz.func105 ok_bucket_Same_1 (env_cons (s := RoF S_acts_Same) snd_acts_Same (env_nil _)) fun args objs p v e => ?_
  unfold S_bucket_Same_1 at e
  split at e
  · rename_i a0 a1 a2 ty0 a3 b0 b1 b2 ty1 b3
    obtain rfl := castO_ty e
    replace e := castO_go e
    obtain rfl := castO_ty e
    replace e := castO_go e
    cases e
    refine ⟨rfl, fun hw ho hp => ?_⟩
    clear hw ho
    repeat' (intro t ht; first | (cases t <;> first | (cases ht; done) | ((try simp only [bn_s] at ht); (try simp only [nd_s] at ht); (try (exfalso; first | contradiction | omega)))) | (refine castG_go ht ?_; clear ht) | (refine ht ?_ ?_ <;> clear ht) | (refine ht.1 ?_ ?_ <;> clear ht) | (refine ht ?_; clear ht))
    all_goals first
      | exact True.intro
      | (refine ⟨congrArg AV.bool ?_, rfl⟩; rw [Bool.eq_iff_iff]; simp only [Bool.and_eq_true, decide_eq_true_eq, beq_iff_eq, Prod.mk.injEq, and_true, and_assoc]; done)
      | (refine ⟨congrArg AV.bool ?_, rfl⟩; simp_all [Bool.and_assoc]; done)
      | (refine ⟨congrArg AV.bool ?_, rfl⟩; rw [Bool.eq_iff_iff]; simp_all [and_assoc]; done)
      | skip
  · cases e
def ir_slices_EqualFunc_api_Bucket_api_Bucket_api_Bucket_api_Bucket : IR :=
(.seq
(.keep [0, 1, 2]
(.reg [oD 6 (.mov cF)]))
(.seq
(.seq
(.keep [0, 1, 2]
(.reg [oM 10 0,
oE 11 10,
oM 12 1,
oE 13 12,
oB 14 .neq (.t 11) (.t 13)]))
(.cond (.t 14)
(.seq
(.reg [oD 6 (.mov cF)])
.ret)
.skip))
(.seq
(.seq
(.keep [0, 1, 2]
(.reg [oM 15 0,
oE 16 15,
oD 17 (.mov (cI 0))]))
(.block 0
(.loop
(.seq
(.keep [1, 2, 15, 16, 17]
(.reg [oB 18 .lss (.t 17) (.t 16)]))
(.seq
(.cond (.t 18)
.skip
(.exit 0))
(.seq
(.block 1
(.seq
(.keep [1, 2, 15, 16, 17]
(.reg [oM 19 17,
oI 20 4 15 17,
oK 21 4 20,
oD 8 (.box [.int .u64 0, .int .u64 0, .int .u64 0, .imm Y2 []]),
oM 7 19,
oS 4 8 21]))
(.seq
(.keep [1, 2, 7, 8, 15, 16, 17]
(.reg [oM 22 1,
oM 23 7,
oI 24 4 22 23,
oK 25 4 24,
oD 9 (.box [.int .u64 0, .int .u64 0, .int .u64 0, .imm Y2 []]),
oS 4 9 25]))
(.seq
(.keep [1, 2, 8, 9, 15, 16, 17]
(.reg [oM 26 2,
oK 27 4 8,
oK 28 4 9,
oD 29 (.call false (.t 26) [.t 27, .t 28]),
oD 30 (.un .not (.t 29))]))
(.cond (.t 30)
(.seq
(.reg [oD 6 (.mov cF)])
.ret)
.skip)))))
(.keep [1, 2, 15, 16, 17]
(.reg [oB 31 .add (.t 17) (cI 1),
oM 17 31]))))))))
(.seq
(.keep []
(.reg [oD 6 (.mov cT)]))
.ret))))
def rd_slices_EqualFunc_api_Bucket_api_Bucket_api_Bucket_api_Bucket : List RD := [.tmp 6 true none]
theorem ok_slices_EqualFunc_api_Bucket_api_Bucket_api_Bucket_api_Bucket : fnOk Tryz.prog Tryz.f104 ir_slices_EqualFunc_api_Bucket_api_Bucket_api_Bucket_api_Bucket rd_slices_EqualFunc_api_Bucket_api_Bucket_api_Bucket_api_Bucket = true := by kernel_rfl
def S_slices_EqualFunc_api_Bucket_api_Bucket_api_Bucket_api_Bucket : List AV → List Obj → Option (Prop × AV)
  | [.imm ty0 a, .imm ty1 b, .fn 105 [] []], [] => castO ty0 Y4 a fun a => castO ty1 Y4 b fun b => some ((True, .bool (decide ((a : List BK) = b))))
  | _, _ => none
theorem snd_slices_EqualFunc_api_Bucket_api_Bucket_api_Bucket_api_Bucket : SoundS Tryz.prog 104 (RoF S_slices_EqualFunc_api_Bucket_api_Bucket_api_Bucket_api_Bucket).sum := by
  refine ro_fn Tryz.func104 ok_slices_EqualFunc_api_Bucket_api_Bucket_api_Bucket_api_Bucket (env_cons (s := RoF S_bucket_Same_1) snd_bucket_Same_1 (env_nil _)) fun args objs p v e => ?_
  unfold S_slices_EqualFunc_api_Bucket_api_Bucket_api_Bucket_api_Bucket at e
  split at e
  · rename_i ty0 a ty1 b
    obtain rfl := castO_ty e
    replace e := castO_go e
    obtain rfl := castO_ty e
    replace e := castO_go e
    cases e
    refine ⟨rfl, fun hw ho hp => ?_⟩
    change List BK at a
    change List BK at b
    have hl : a.length ≤ maxLen := (hw (.imm Y4 a) (by simp)).2
    unfold maxLen at hl
    clear hw ho
    repeat' (intro t ht; first | (cases t <;> first | (cases ht; done) | ((try simp only [bn_s] at ht); (try simp only [nd_s] at ht))) | (refine castG_go ht ?_; clear ht) | (refine ht ?_ ?_ <;> clear ht) | (refine ht.1 ?_ ?_ <;> clear ht) | (refine ht ?_; clear ht))
    all_goals first
      | (have hne : a ≠ b := fun h => (by assumption : ¬ (a.length : Int) = b.length) (by rw [h])
         refine ⟨?_, rfl⟩; rw [decide_eq_false hne]; done)
      | (intro r h1 h2; clear h1; refine h2 ⟨[1, 2, 15, 16, 17], Nat, (fun i => i ≤ a.length ∧ a.take i = b.take i), fun i => [.imm Y4 b, .fn 105 [] [], .imm Y4 a, .int .i64 a.length, .int .i64 i], fun _ => [], fun i => a.length - i, ⟨0, ⟨Nat.zero_le _, rfl⟩, rfl, rfl⟩, ?_⟩; clear h2)
    rintro i ⟨hi, he⟩
    have hl2 : a.length = b.length := by omega
    repeat' (intro t ht; first | (cases t <;> first | (cases ht; done) | ((try simp only [bn_s] at ht); (try simp only [nd_s] at ht); (try (exfalso; first | contradiction | omega)))) | (refine castG_go ht ?_; clear ht) | (refine ht ?_ ?_ <;> clear ht) | (refine ht.1 ?_ ?_ <;> clear ht) | (refine ht ?_; clear ht))
    all_goals (try generalize (Ty.dflt Y4) = od at *)
    all_goals first
      | exact True.intro
      | ((try simp only [nd_s, bn_s, mm_s] at *); omega)
      | (have e := tkAll he (by omega) hl2
         refine ⟨?_, rfl⟩; rw [decide_eq_true e]; done)
      | (have hne : a ≠ b := tkNe (d := od) (i := i) (by assumption)
         refine ⟨?_, rfl⟩; rw [decide_eq_false hne]; done)
      | exact ⟨i + 1, ⟨by omega, tkStep he (by omega) hl2 (d := od) (by assumption)⟩, by (try simp only [nd_s, bn_s, mm_s] at *); omega, rfl, rfl⟩
      | skip
  · cases e
def ir_bucket_Same : IR :=
(.seq
(.keep [0, 1]
(.reg [oD 4 (.mov cF)]))
(.seq
(.reg [oM 5 0,
oM 6 1,
oC 7 104 [.t 5, .t 6, .f 105],
oM 4 7])
.ret))
def rd_bucket_Same : List RD := [.tmp 4 true none]
theorem ok_bucket_Same : fnOk Tryz.prog Tryz.f61 ir_bucket_Same rd_bucket_Same = true := by kernel_rfl
def S_bucket_Same : List AV → List Obj → Option (Prop × AV)
  | [.imm ty0 a, .imm ty1 b], [] => castO ty0 Y4 a fun a => castO ty1 Y4 b fun b => some ((True, .bool (decide ((a : List BK) = b))))
  | _, _ => none
theorem snd_bucket_Same : SoundS Tryz.prog 61 (RoF S_bucket_Same).sum := by
  refine ro_fn Tryz.func61 ok_bucket_Same (env_cons (s := RoF S_slices_EqualFunc_api_Bucket_api_Bucket_api_Bucket_api_Bucket) snd_slices_EqualFunc_api_Bucket_api_Bucket_api_Bucket_api_Bucket (env_cons (s := RoF S_bucket_Same_1) snd_bucket_Same_1 (env_nil _))) fun args objs p v e => ?_
  unfold S_bucket_Same at e
  split at e
  · rename_i ty0 a ty1 b
    obtain rfl := castO_ty e
    replace e := castO_go e
    obtain rfl := castO_ty e
    replace e := castO_go e
    cases e
    refine ⟨rfl, fun hw ho hp => ?_⟩
    clear hw ho
    repeat' (intro t ht; first | (cases t <;> first | (cases ht; done) | ((try simp only [bn_s] at ht); (try simp only [nd_s] at ht); (try (exfalso; first | contradiction | omega)))) | (refine castG_go ht ?_; clear ht) | (refine ht ?_ ?_ <;> clear ht) | (refine ht.1 ?_ ?_ <;> clear ht) | (refine ht ?_; clear ht))
    all_goals first
      | exact True.intro
      | exact ⟨rfl, rfl⟩
      | exact rfl
  · cases e
def ir_slices_EqualFunc_api_Oxm_api_Oxm_api_Oxm_api_Oxm : IR :=
(.seq
(.keep [0, 1, 2]
(.reg [oD 6 (.mov cF)]))
(.seq
(.seq
(.keep [0, 1, 2]
(.reg [oM 10 0,
oE 11 10,
oM 12 1,
oE 13 12,
oB 14 .neq (.t 11) (.t 13)]))
(.cond (.t 14)
(.seq
(.reg [oD 6 (.mov cF)])
.ret)
.skip))
(.seq
(.seq
(.keep [0, 1, 2]
(.reg [oM 15 0,
oE 16 15,
oD 17 (.mov (cI 0))]))
(.block 0
(.loop
(.seq
(.keep [1, 2, 15, 16, 17]
(.reg [oB 18 .lss (.t 17) (.t 16)]))
(.seq
(.cond (.t 18)
.skip
(.exit 0))
(.seq
(.block 1
(.seq
(.keep [1, 2, 15, 16, 17]
(.reg [oM 19 17,
oI 20 6 15 17,
oK 21 6 20,
oD 8 (.box [.int .i64 0, .int .i64 0, .kb false, .int .u64 0, .imm (.int .u8) [], .imm (.int .u8) []]),
oM 7 19,
oS 6 8 21]))
(.seq
(.keep [1, 2, 7, 8, 15, 16, 17]
(.reg [oM 22 1,
oM 23 7,
oI 24 6 22 23,
oK 25 6 24,
oD 9 (.box [.int .i64 0, .int .i64 0, .kb false, .int .u64 0, .imm (.int .u8) [], .imm (.int .u8) []]),
oS 6 9 25]))
(.seq
(.keep [1, 2, 8, 9, 15, 16, 17]
(.reg [oM 26 2,
oK 27 6 8,
oK 28 6 9,
oD 29 (.call false (.t 26) [.t 27, .t 28]),
oD 30 (.un .not (.t 29))]))
(.cond (.t 30)
(.seq
(.reg [oD 6 (.mov cF)])
.ret)
.skip)))))
(.keep [1, 2, 15, 16, 17]
(.reg [oB 31 .add (.t 17) (cI 1),
oM 17 31]))))))))
(.seq
(.keep []
(.reg [oD 6 (.mov cT)]))
.ret))))
def rd_slices_EqualFunc_api_Oxm_api_Oxm_api_Oxm_api_Oxm : List RD := [.tmp 6 true none]
theorem ok_slices_EqualFunc_api_Oxm_api_Oxm_api_Oxm_api_Oxm : fnOk Tryz.prog Tryz.f98 ir_slices_EqualFunc_api_Oxm_api_Oxm_api_Oxm_api_Oxm rd_slices_EqualFunc_api_Oxm_api_Oxm_api_Oxm_api_Oxm = true := by kernel_rfl
def S_slices_EqualFunc_api_Oxm_api_Oxm_api_Oxm_api_Oxm : List AV → List Obj → Option (Prop × AV)
  | [.imm (.cons (.int .i64) (.cons (.int .i64) (.cons .bool (.cons (.int .u64) (.cons (.sl (.int .u8)) (.cons (.sl (.int .u8)) .nil)))))) a, .imm (.cons (.int .i64) (.cons (.int .i64) (.cons .bool (.cons (.int .u64) (.cons (.sl (.int .u8)) (.cons (.sl (.int .u8)) .nil)))))) b, .fn 99 [] []], [] => some ((True, .bool (decide ((a : List OV) = b))))
  | _, _ => none
theorem snd_slices_EqualFunc_api_Oxm_api_Oxm_api_Oxm_api_Oxm : SoundS Tryz.prog 98 (RoF S_slices_EqualFunc_api_Oxm_api_Oxm_api_Oxm_api_Oxm).sum := by
  refine ro_fn Tryz.func98 ok_slices_EqualFunc_api_Oxm_api_Oxm_api_Oxm_api_Oxm (env_cons (s := RoF S_oxm_Same) snd_oxm_Same (env_nil _)) fun args objs p v e => ?_
  unfold S_slices_EqualFunc_api_Oxm_api_Oxm_api_Oxm_api_Oxm at e
  split at e
  · rename_i a b
    cases e
    refine ⟨rfl, fun hw ho hp => ?_⟩
    change List OV at a
    change List OV at b
    have hl : a.length ≤ maxLen := (hw (.imm Y1 a) (by simp)).2
    unfold maxLen at hl
    clear hw ho
    repeat' (intro t ht; first | (cases t <;> first | (cases ht; done) | ((try simp only [bn_s] at ht); (try simp only [nd_s] at ht))) | (refine castG_go ht ?_; clear ht) | (refine ht ?_ ?_ <;> clear ht) | (refine ht.1 ?_ ?_ <;> clear ht) | (refine ht ?_; clear ht))
    all_goals first
      | (have hne : a ≠ b := fun h => (by assumption : ¬ (a.length : Int) = b.length) (by rw [h])
         refine ⟨?_, rfl⟩; rw [decide_eq_false hne]; done)
      | (intro r h1 h2; clear h1; refine h2 ⟨[1, 2, 15, 16, 17], Nat, (fun i => i ≤ a.length ∧ a.take i = b.take i), fun i => [.imm Y1 b, .fn 99 [] [], .imm Y1 a, .int .i64 a.length, .int .i64 i], fun _ => [], fun i => a.length - i, ⟨0, ⟨Nat.zero_le _, rfl⟩, rfl, rfl⟩, ?_⟩; clear h2)
    rintro i ⟨hi, he⟩
    have hl2 : a.length = b.length := by omega
    repeat' (intro t ht; first | (cases t <;> first | (cases ht; done) | ((try simp only [bn_s] at ht); (try simp only [nd_s] at ht); (try (exfalso; first | contradiction | omega)))) | (refine castG_go ht ?_; clear ht) | (refine ht ?_ ?_ <;> clear ht) | (refine ht.1 ?_ ?_ <;> clear ht) | (refine ht ?_; clear ht))
    all_goals (try generalize (Ty.dflt Y1) = od at *)
    all_goals first
      | exact True.intro
      | ((try simp only [nd_s, bn_s, mm_s] at *); omega)
      | (have e := tkAll he (by omega) hl2
         refine ⟨?_, rfl⟩; rw [decide_eq_true e]; done)
      | (have hne : a ≠ b := tkNe (d := od) (i := i) (smO_f (by assumption))
         refine ⟨?_, rfl⟩; rw [decide_eq_false hne]; done)
      | exact ⟨i + 1, ⟨by omega, tkStep he (by omega) hl2 (d := od) (smO_t (by assumption))⟩, by (try simp only [nd_s, bn_s, mm_s] at *); omega, rfl, rfl⟩
      | skip
  · cases e
def ir_match_Same : IR :=
(.seq
(.keep [0, 1]
(.reg [oD 4 (.mov cF)]))
(.seq
(.reg [oM 5 0,
oM 6 1,
oC 7 98 [.t 5, .t 6, .f 99],
oM 4 7])
.ret))
def rd_match_Same : List RD := [.tmp 4 true none]
theorem ok_match_Same : fnOk Tryz.prog Tryz.f58 ir_match_Same rd_match_Same = true := by kernel_rfl
def S_match_Same : List AV → List Obj → Option (Prop × AV)
  | [.imm (.cons (.int .i64) (.cons (.int .i64) (.cons .bool (.cons (.int .u64) (.cons (.sl (.int .u8)) (.cons (.sl (.int .u8)) .nil)))))) a, .imm (.cons (.int .i64) (.cons (.int .i64) (.cons .bool (.cons (.int .u64) (.cons (.sl (.int .u8)) (.cons (.sl (.int .u8)) .nil)))))) b], [] => some ((True, .bool (decide ((a : List OV) = b))))
  | _, _ => none
theorem snd_match_Same : SoundS Tryz.prog 58 (RoF S_match_Same).sum := by
  refine ro_fn Tryz.func58 ok_match_Same (env_cons (s := RoF S_slices_EqualFunc_api_Oxm_api_Oxm_api_Oxm_api_Oxm) snd_slices_EqualFunc_api_Oxm_api_Oxm_api_Oxm_api_Oxm (env_cons (s := RoF S_oxm_Same) snd_oxm_Same (env_nil _))) fun args objs p v e => ?_
  unfold S_match_Same at e
  split at e
  · rename_i a b
    cases e
    refine ⟨rfl, fun hw ho hp => ?_⟩
    clear hw ho
    repeat' (intro t ht; first | (cases t <;> first | (cases ht; done) | ((try simp only [bn_s] at ht); (try simp only [nd_s] at ht); (try (exfalso; first | contradiction | omega)))) | (refine castG_go ht ?_; clear ht) | (refine ht ?_ ?_ <;> clear ht) | (refine ht.1 ?_ ?_ <;> clear ht) | (refine ht ?_; clear ht))
    all_goals first
      | exact True.intro
      | exact ⟨rfl, rfl⟩
      | exact rfl
  · cases e
end Go.Eng
