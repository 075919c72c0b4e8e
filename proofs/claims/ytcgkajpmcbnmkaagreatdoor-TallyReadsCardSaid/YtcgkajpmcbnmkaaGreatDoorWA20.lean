/- Parts of the proof: V3, W5, U2. No condition. -/
import Derived.Test.YtcgkajpmcbnmkaaGreatDoorProg
import Derived.Test.YtcgkajpmcbnmkaaGreatDoorWA10
import Derived.KernelRfl
import Derived.Test.YtcgkajpmcbnmkaaGreatDoorWA19
import Derived.Test.YtcgkajpmcbnmkaaGreatDoorWA18
import Derived.Test.YtcgkajpmcbnmkaaGreatDoorWA13
namespace Go.Eng
open Go.Proofs
set_option linter.unusedVariables false
set_option linter.unusedSimpArgs false
set_option maxRecDepth 100000
set_option maxHeartbeats 1000000
def ir_hello_samePart : IR :=
(.seq
(.keep [0, 1]
(.reg [oD 2 (.boxv (.t 0)),
oD 3 (.boxv (.t 1)),
oD 4 (.mov cF)]))
(.seq
(.keep [2, 3]
(.reg [oA 6 0 2,
oL 7 6,
oA 8 0 3,
oL 9 8,
oC 10 52 [.t 7, .t 9],
oM 11 10,
oT 11 12 (.fieldAddr 1 (.t 2)),
oT 11 13 (.load none (.t 12)),
oT 11 14 (.fieldAddr 1 (.t 3)),
oT 11 15 (.load none (.t 14)),
oT 11 16 (.call false (.f 95) [(.t 13), (.t 15)]),
oP 17 11 (.t 16) cF,
oM 18 17,
oT 18 19 (.fieldAddr 9 (.t 2)),
oT 18 20 (.load none (.t 19)),
oT 18 21 (.fieldAddr 9 (.t 3)),
oT 18 22 (.load none (.t 21)),
oT 18 23 (.call false (.f 53) [(.t 20), (.t 22)]),
oP 24 18 (.t 23) cF,
oM 25 24,
oT 25 26 (.fieldAddr 6 (.t 2)),
oT 25 27 (.load none (.t 26)),
oT 25 28 (.fieldAddr 6 (.t 3)),
oT 25 29 (.load none (.t 28)),
oT 25 30 (.call false (.f 96) [(.t 27), (.t 29), (.f 52)]),
oP 31 25 (.t 30) cF,
oM 5 31]))
(.seq
(.keep [2, 3, 5]
(.reg [oM 32 5,
oM 33 32,
oT 33 34 (.fieldAddr 2 (.t 2)),
oT 33 35 (.load none (.t 34)),
oT 33 36 (.fieldAddr 2 (.t 3)),
oT 33 37 (.load none (.t 36)),
oT 33 38 (.call false (.f 58) [(.t 35), (.t 37)]),
oP 39 33 (.t 38) cF,
oM 40 39,
oT 40 41 (.fieldAddr 3 (.t 2)),
oT 40 42 (.load none (.t 41)),
oT 40 43 (.fieldAddr 3 (.t 3)),
oT 40 44 (.load none (.t 43)),
oT 40 45 (.call false (.f 60) [(.t 42), (.t 44)]),
oP 46 40 (.t 45) cF,
oM 47 46,
oT 47 48 (.fieldAddr 4 (.t 2)),
oT 47 49 (.load none (.t 48)),
oT 47 50 (.fieldAddr 4 (.t 3)),
oT 47 51 (.load none (.t 50)),
oT 47 52 (.call false (.f 61) [(.t 49), (.t 51)]),
oP 53 47 (.t 52) cF,
oM 54 53,
oT 54 55 (.fieldAddr 5 (.t 2)),
oT 54 56 (.load none (.t 55)),
oT 54 57 (.fieldAddr 5 (.t 3)),
oT 54 58 (.load none (.t 57)),
oT 54 59 (.call false (.f 62) [(.t 56), (.t 58)]),
oP 60 54 (.t 59) cF,
oM 61 60,
oT 61 62 (.fieldAddr 7 (.t 2)),
oT 61 63 (.load none (.t 62)),
oT 61 64 (.fieldAddr 7 (.t 3)),
oT 61 65 (.load none (.t 64)),
oT 61 66 (.call false (.f 64) [(.t 63), (.t 65)]),
oP 67 61 (.t 66) cF,
oM 68 67,
oT 68 69 (.fieldAddr 8 (.t 2)),
oT 68 70 (.load none (.t 69)),
oT 68 71 (.fieldAddr 8 (.t 3)),
oT 68 72 (.load none (.t 71)),
oT 68 73 (.call false (.f 97) [(.t 70), (.t 72)]),
oP 74 68 (.t 73) cF,
oM 4 74]))
.ret)))
def rd_hello_samePart : List RD := [.tmp 4 true none]
theorem ok_hello_samePart : fnOk Tryz.prog Tryz.f57 ir_hello_samePart rd_hello_samePart = true := by kernel_rfl
def S_hello_samePart : List AV → List Obj → Option (Prop × AV)
  | [.agg [.imm (.int .u64) a0, .imm .str a1, .imm (.cons (.int .i64) (.cons (.int .i64) (.cons .bool (.cons (.int .u64) (.cons (.sl (.int .u8)) (.cons (.sl (.int .u8)) .nil)))))) a2, .imm ty0 a3, .imm ty1 a4, .imm (.cons (.int .i64) (.cons (.int .u64) (.cons (.int .u64) (.cons (.int .u64) (.cons (.sl (.int .u8)) .nil))))) a5, .imm (.sl (.int .u64)) a6, .imm ty2 a7, .imm ty3 a8, .imm (.int .u8) a9], .agg [.imm (.int .u64) b0, .imm .str b1, .imm (.cons (.int .i64) (.cons (.int .i64) (.cons .bool (.cons (.int .u64) (.cons (.sl (.int .u8)) (.cons (.sl (.int .u8)) .nil)))))) b2, .imm ty4 b3, .imm ty5 b4, .imm (.cons (.int .i64) (.cons (.int .u64) (.cons (.int .u64) (.cons (.int .u64) (.cons (.sl (.int .u8)) .nil))))) b5, .imm (.sl (.int .u64)) b6, .imm ty6 b7, .imm ty7 b8, .imm (.int .u8) b9]], [] => castO ty0 Y3 a3 fun a3 => castO ty1 Y4 a4 fun a4 => castO ty2 Y8 a7 fun a7 => castO ty3 YA a8 fun a8 => castO ty4 Y3 b3 fun b3 => castO ty5 Y4 b4 fun b4 => castO ty6 Y8 b7 fun b7 => castO ty7 YA b8 fun b8 => some ((True, .bool (decide (((a0, a1, a2, a3, a4, a5, a6, a7, a8, a9, ()) : VPa) = (b0, b1, b2, b3, b4, b5, b6, b7, b8, b9, ())))))
  | _, _ => none
theorem snd_hello_samePart : SoundS Tryz.prog 57 (RoF S_hello_samePart).sum := by
  refine ro_fn Tryz.func57 ok_hello_samePart (env_cons (s := RoF S_slices_Equal_uint64_uint64) snd_slices_Equal_uint64_uint64 (env_cons (s := RoF S_slices_Equal_string_string) snd_slices_Equal_string_string (env_cons (s := RoF S_bytes_Equal) snd_bytes_Equal (env_cons (s := RoF S_slices_EqualFunc_uint64_uint64_uint64_uint64) snd_slices_EqualFunc_uint64_uint64_uint64_uint64 (env_cons (s := RoF S_match_Same) snd_match_Same (env_cons (s := RoF S_instr_Same) snd_instr_Same (env_cons (s := RoF S_bucket_Same) snd_bucket_Same (env_cons (s := RoF S_band_Same) snd_band_Same (env_cons (s := RoF S_port_Same) snd_port_Same (env_cons (s := RoF S_feature_Same) snd_feature_Same (env_nil _))))))))))) fun args objs p v e => ?_
  unfold S_hello_samePart at e
  split at e
  · rename_i a0 a1 a2 ty0 a3 ty1 a4 a5 a6 ty2 a7 ty3 a8 a9 b0 b1 b2 ty4 b3 ty5 b4 b5 b6 ty6 b7 ty7 b8 b9
    obtain rfl := castO_ty e
    replace e := castO_go e
    obtain rfl := castO_ty e
    replace e := castO_go e
    obtain rfl := castO_ty e
    replace e := castO_go e
    obtain rfl := castO_ty e
    replace e := castO_go e
    obtain rfl := castO_ty e
    replace e := castO_go e
    obtain rfl := castO_ty e
    replace e := castO_go e
    obtain rfl := castO_ty e
    replace e := castO_go e
    obtain rfl := castO_ty e
    replace e := castO_go e
    cases e
    refine ⟨rfl, fun hw ho hp => ?_⟩
    change List Int at a0
    change List Int at a9
    change List Int at b0
    change List Int at b9
    clear hw ho
    repeat' (intro t ht; first | (cases t <;> first | (cases ht; done) | ((try simp only [bn_s] at ht); (try simp only [nd_s] at ht); (try (exfalso; first | contradiction | omega)))) | (refine castG_go ht ?_; clear ht) | (refine ht ?_ ?_ <;> clear ht) | (refine ht.1 ?_ ?_ <;> clear ht) | (refine ht ?_; clear ht))
    all_goals first
      | exact True.intro
      | (refine ⟨congrArg AV.bool ?_, rfl⟩; rw [Bool.eq_iff_iff]; simp only [Bool.and_eq_true, decide_eq_true_eq, beq_iff_eq, Prod.mk.injEq, and_true, and_assoc]; done)
      | (refine ⟨congrArg AV.bool ?_, rfl⟩; simp_all [Bool.and_assoc]; done)
      | (refine ⟨congrArg AV.bool ?_, rfl⟩; rw [Bool.eq_iff_iff]; simp_all [and_assoc]; done)
      | skip
  · cases e
def ir_slices_EqualFunc_api_Part_api_Part_api_Part_api_Part : IR :=
(.seq
(.keep [0, 1, 2]
(.reg [oD 6 (.mov cF)]))
(.seq
(.seq
(.keep [0, 1, 2]
(.reg [oM 10 0,
oE 11 10,
oM 12 1,
oE 13 12,
oB 14 .neq (.t 11) (.t 13)]))
(.cond (.t 14)
(.seq
(.reg [oD 6 (.mov cF)])
.ret)
.skip))
(.seq
(.seq
(.keep [0, 1, 2]
(.reg [oM 15 0,
oE 16 15,
oD 17 (.mov (cI 0))]))
(.block 0
(.loop
(.seq
(.keep [1, 2, 15, 16, 17]
(.reg [oB 18 .lss (.t 17) (.t 16)]))
(.seq
(.cond (.t 18)
.skip
(.exit 0))
(.seq
(.block 1
(.seq
(.keep [1, 2, 15, 16, 17]
(.reg [oM 19 17,
oI 20 10 15 17,
oK 21 10 20,
oD 8 (.box [.imm (.int .u64) [], .imm .str [], .imm Y1 [], .imm Y3 [], .imm Y4 [], .imm Y5 [], .imm (.sl (.int .u64)) [], .imm Y8 [], .imm YA [], .imm (.int .u8) []]),
oM 7 19,
oS 10 8 21]))
(.seq
(.keep [1, 2, 7, 8, 15, 16, 17]
(.reg [oM 22 1,
oM 23 7,
oI 24 10 22 23,
oK 25 10 24,
oD 9 (.box [.imm (.int .u64) [], .imm .str [], .imm Y1 [], .imm Y3 [], .imm Y4 [], .imm Y5 [], .imm (.sl (.int .u64)) [], .imm Y8 [], .imm YA [], .imm (.int .u8) []]),
oS 10 9 25]))
(.seq
(.keep [1, 2, 8, 9, 15, 16, 17]
(.reg [oM 26 2,
oK 27 10 8,
oK 28 10 9,
oD 29 (.call false (.t 26) [.t 27, .t 28]),
oD 30 (.un .not (.t 29))]))
(.cond (.t 30)
(.seq
(.reg [oD 6 (.mov cF)])
.ret)
.skip)))))
(.keep [1, 2, 15, 16, 17]
(.reg [oB 31 .add (.t 17) (cI 1),
oM 17 31]))))))))
(.seq
(.keep []
(.reg [oD 6 (.mov cT)]))
.ret))))
def rd_slices_EqualFunc_api_Part_api_Part_api_Part_api_Part : List RD := [.tmp 6 true none]
theorem ok_slices_EqualFunc_api_Part_api_Part_api_Part_api_Part : fnOk Tryz.prog Tryz.f56 ir_slices_EqualFunc_api_Part_api_Part_api_Part_api_Part rd_slices_EqualFunc_api_Part_api_Part_api_Part_api_Part = true := by kernel_rfl
def S_slices_EqualFunc_api_Part_api_Part_api_Part_api_Part : List AV → List Obj → Option (Prop × AV)
  | [.imm ty0 a, .imm ty1 b, .fn 57 [] []], [] => castO ty0 YC a fun a => castO ty1 YC b fun b => some ((True, .bool (decide ((a : List VPa) = b))))
  | _, _ => none
theorem snd_slices_EqualFunc_api_Part_api_Part_api_Part_api_Part : SoundS Tryz.prog 56 (RoF S_slices_EqualFunc_api_Part_api_Part_api_Part_api_Part).sum := by
  refine ro_fn Tryz.func56 ok_slices_EqualFunc_api_Part_api_Part_api_Part_api_Part (env_cons (s := RoF S_hello_samePart) snd_hello_samePart (env_nil _)) fun args objs p v e => ?_
  unfold S_slices_EqualFunc_api_Part_api_Part_api_Part_api_Part at e
  split at e
  · rename_i ty0 a ty1 b
    obtain rfl := castO_ty e
    replace e := castO_go e
    obtain rfl := castO_ty e
    replace e := castO_go e
    cases e
    refine ⟨rfl, fun hw ho hp => ?_⟩
    change List VPa at a
    change List VPa at b
    have hl : a.length ≤ maxLen := (hw (.imm YC a) (by simp)).2
    unfold maxLen at hl
    clear hw ho
    repeat' (intro t ht; first | (cases t <;> first | (cases ht; done) | ((try simp only [bn_s] at ht); (try simp only [nd_s] at ht))) | (refine castG_go ht ?_; clear ht) | (refine ht ?_ ?_ <;> clear ht) | (refine ht.1 ?_ ?_ <;> clear ht) | (refine ht ?_; clear ht))
    all_goals first
      | (have hne : a ≠ b := fun h => (by assumption : ¬ (a.length : Int) = b.length) (by rw [h])
         refine ⟨?_, rfl⟩; rw [decide_eq_false hne]; done)
      | (intro r h1 h2; clear h1; refine h2 ⟨[1, 2, 15, 16, 17], Nat, (fun i => i ≤ a.length ∧ a.take i = b.take i), fun i => [.imm YC b, .fn 57 [] [], .imm YC a, .int .i64 a.length, .int .i64 i], fun _ => [], fun i => a.length - i, ⟨0, ⟨Nat.zero_le _, rfl⟩, rfl, rfl⟩, ?_⟩; clear h2)
    rintro i ⟨hi, he⟩
    have hl2 : a.length = b.length := by omega
    repeat' (intro t ht; first | (cases t <;> first | (cases ht; done) | ((try simp only [bn_s] at ht); (try simp only [nd_s] at ht); (try (exfalso; first | contradiction | omega)))) | (refine castG_go ht ?_; clear ht) | (refine ht ?_ ?_ <;> clear ht) | (refine ht.1 ?_ ?_ <;> clear ht) | (refine ht ?_; clear ht))
    all_goals (try generalize (Ty.dflt YC) = od at *)
    all_goals first
      | exact True.intro
      | ((try simp only [nd_s, bn_s, mm_s] at *); omega)
      | (have e := tkAll he (by omega) hl2
         refine ⟨?_, rfl⟩; rw [decide_eq_true e]; done)
      | (have hne : a ≠ b := tkNe (d := od) (i := i) (by assumption)
         refine ⟨?_, rfl⟩; rw [decide_eq_false hne]; done)
      | exact ⟨i + 1, ⟨by omega, tkStep he (by omega) hl2 (d := od) (by assumption)⟩, by (try simp only [nd_s, bn_s, mm_s] at *); omega, rfl, rfl⟩
      | skip
  · cases e
def ir_hello_Same : IR :=
(.seq
(.keep [0, 1]
(.reg [oD 2 (.boxv (.t 0)),
oD 3 (.boxv (.t 1)),
oD 4 (.mov cF)]))
(.seq
(.seq
(.keep [2, 3]
(.reg [oA 6 0 2,
oL 7 6,
oA 8 0 3,
oL 9 8,
oB 10 .neq (.t 7) (.t 9),
oM 11 10,
oF 11 12 (.fieldAddr 1 (.t 2)),
oF 11 13 (.load none (.t 12)),
oF 11 14 (.fieldAddr 1 (.t 3)),
oF 11 15 (.load none (.t 14)),
oF 11 16 (.bin .neq (.t 13) (.t 15)),
oP 17 11 cT (.t 16),
oM 18 17,
oF 18 19 (.fieldAddr 12 (.t 2)),
oF 18 20 (.load none (.t 19)),
oF 18 21 (.fieldAddr 12 (.t 3)),
oF 18 22 (.load none (.t 21)),
oF 18 23 (.bin .neq (.t 20) (.t 22)),
oP 24 18 cT (.t 23),
oM 25 24,
oF 25 26 (.fieldAddr 13 (.t 2)),
oF 25 27 (.load none (.t 26)),
oF 25 28 (.fieldAddr 13 (.t 3)),
oF 25 29 (.load none (.t 28)),
oF 25 30 (.bin .neq (.t 27) (.t 29)),
oP 31 25 cT (.t 30)]))
(.cond (.t 31)
(.seq
(.keep []
(.reg [oD 4 (.mov cF)]))
.ret)
.skip))
(.seq
(.keep [2, 3]
(.reg [oA 32 2 2,
oL 33 32,
oA 34 2 3,
oL 35 34,
oC 36 52 [.t 33, .t 35],
oM 37 36,
oT 37 38 (.fieldAddr 3 (.t 2)),
oT 37 39 (.load none (.t 38)),
oT 37 40 (.fieldAddr 3 (.t 3)),
oT 37 41 (.load none (.t 40)),
oT 37 42 (.call false (.f 53) [(.t 39), (.t 41)]),
oP 43 37 (.t 42) cF,
oM 44 43,
oT 44 45 (.fieldAddr 4 (.t 2)),
oT 44 46 (.load none (.t 45)),
oT 44 47 (.fieldAddr 4 (.t 3)),
oT 44 48 (.load none (.t 47)),
oT 44 49 (.call false (.f 54) [(.t 46), (.t 48), (.f 55)]),
oP 50 44 (.t 49) cF,
oM 51 50,
oT 51 52 (.fieldAddr 14 (.t 2)),
oT 51 53 (.load none (.t 52)),
oT 51 54 (.fieldAddr 14 (.t 3)),
oT 51 55 (.load none (.t 54)),
oT 51 56 (.call false (.f 56) [(.t 53), (.t 55), (.f 57)]),
oP 57 51 (.t 56) cF,
oM 5 57]))
(.seq
(.keep [2, 3, 5]
(.reg [oM 58 5,
oM 59 58,
oT 59 60 (.fieldAddr 5 (.t 2)),
oT 59 61 (.load none (.t 60)),
oT 59 62 (.fieldAddr 5 (.t 3)),
oT 59 63 (.load none (.t 62)),
oT 59 64 (.call false (.f 58) [(.t 61), (.t 63)]),
oP 65 59 (.t 64) cF,
oM 66 65,
oT 66 67 (.fieldAddr 6 (.t 2)),
oT 66 68 (.load none (.t 67)),
oT 66 69 (.fieldAddr 6 (.t 3)),
oT 66 70 (.load none (.t 69)),
oT 66 71 (.call false (.f 59) [(.t 68), (.t 70)]),
oP 72 66 (.t 71) cF,
oM 73 72,
oT 73 74 (.fieldAddr 7 (.t 2)),
oT 73 75 (.load none (.t 74)),
oT 73 76 (.fieldAddr 7 (.t 3)),
oT 73 77 (.load none (.t 76)),
oT 73 78 (.call false (.f 60) [(.t 75), (.t 77)]),
oP 79 73 (.t 78) cF,
oM 80 79,
oT 80 81 (.fieldAddr 8 (.t 2)),
oT 80 82 (.load none (.t 81)),
oT 80 83 (.fieldAddr 8 (.t 3)),
oT 80 84 (.load none (.t 83)),
oT 80 85 (.call false (.f 61) [(.t 82), (.t 84)]),
oP 86 80 (.t 85) cF,
oM 87 86,
oT 87 88 (.fieldAddr 9 (.t 2)),
oT 87 89 (.load none (.t 88)),
oT 87 90 (.fieldAddr 9 (.t 3)),
oT 87 91 (.load none (.t 90)),
oT 87 92 (.call false (.f 62) [(.t 89), (.t 91)]),
oP 93 87 (.t 92) cF,
oM 94 93,
oT 94 95 (.fieldAddr 10 (.t 2)),
oT 94 96 (.load none (.t 95)),
oT 94 97 (.fieldAddr 10 (.t 3)),
oT 94 98 (.load none (.t 97)),
oT 94 99 (.call false (.f 63) [(.t 96), (.t 98)]),
oP 100 94 (.t 99) cF,
oM 101 100,
oT 101 102 (.fieldAddr 11 (.t 2)),
oT 101 103 (.load none (.t 102)),
oT 101 104 (.fieldAddr 11 (.t 3)),
oT 101 105 (.load none (.t 104)),
oT 101 106 (.call false (.f 64) [(.t 103), (.t 105)]),
oP 107 101 (.t 106) cF,
oM 4 107]))
.ret))))
def rd_hello_Same : List RD := [.tmp 4 true none]
theorem ok_hello_Same : fnOk Tryz.prog Tryz.f21 ir_hello_Same rd_hello_Same = true := by kernel_rfl
def S_hello_Same : List AV → List Obj → Option (Prop × AV)
  | [.agg [.int .i64 a0, .int .u32 a1, .imm (.int .u64) a2, .imm (.int .u8) a3, .imm (.cons (.int .i64) (.cons (.sl (.int .u8)) .nil)) a4, .imm (.cons (.int .i64) (.cons (.int .i64) (.cons .bool (.cons (.int .u64) (.cons (.sl (.int .u8)) (.cons (.sl (.int .u8)) .nil)))))) a5, .imm ty0 a6, .imm ty1 a7, .imm ty2 a8, .imm (.cons (.int .i64) (.cons (.int .u64) (.cons (.int .u64) (.cons (.int .u64) (.cons (.sl (.int .u8)) .nil))))) a9, .imm (.cons (.int .u64) (.cons (.int .u64) (.cons (.sl (.cons (.int .i64) (.cons (.int .u64) (.cons (.sl (.int .u8)) .nil)))) .nil))) a10, .imm ty3 a11, .int .i64 a12, .int .i64 a13, .imm ty4 a14], .agg [.int .i64 b0, .int .u32 b1, .imm (.int .u64) b2, .imm (.int .u8) b3, .imm (.cons (.int .i64) (.cons (.sl (.int .u8)) .nil)) b4, .imm (.cons (.int .i64) (.cons (.int .i64) (.cons .bool (.cons (.int .u64) (.cons (.sl (.int .u8)) (.cons (.sl (.int .u8)) .nil)))))) b5, .imm ty5 b6, .imm ty6 b7, .imm ty7 b8, .imm (.cons (.int .i64) (.cons (.int .u64) (.cons (.int .u64) (.cons (.int .u64) (.cons (.sl (.int .u8)) .nil))))) b9, .imm (.cons (.int .u64) (.cons (.int .u64) (.cons (.sl (.cons (.int .i64) (.cons (.int .u64) (.cons (.sl (.int .u8)) .nil)))) .nil))) b10, .imm ty8 b11, .int .i64 b12, .int .i64 b13, .imm ty9 b14]], [] => castO ty0 Y2 a6 fun a6 => castO ty1 Y3 a7 fun a7 => castO ty2 Y4 a8 fun a8 => castO ty3 Y8 a11 fun a11 => castO ty4 YC a14 fun a14 => castO ty5 Y2 b6 fun b6 => castO ty6 Y3 b7 fun b7 => castO ty7 Y4 b8 fun b8 => castO ty8 Y8 b11 fun b11 => castO ty9 YC b14 fun b14 => some ((True, .bool (decide (((a0, a1, a2, a3, a4, a5, a6, a7, a8, a9, a10, a11, a12, a13, a14, ()) : VMs) = (b0, b1, b2, b3, b4, b5, b6, b7, b8, b9, b10, b11, b12, b13, b14, ())))))
  | _, _ => none
theorem snd_hello_Same : SoundS Tryz.prog 21 (RoF S_hello_Same).sum := by
  refine ro_fn Tryz.func21 ok_hello_Same (env_cons (s := RoF S_slices_Equal_uint64_uint64) snd_slices_Equal_uint64_uint64 (env_cons (s := RoF S_bytes_Equal) snd_bytes_Equal (env_cons (s := RoF S_slices_EqualFunc_api_Elem_api_Elem_api_Elem_api_Elem) snd_slices_EqualFunc_api_Elem_api_Elem_api_Elem_api_Elem (env_cons (s := RoF S_hello_sameElem) snd_hello_sameElem (env_cons (s := RoF S_slices_EqualFunc_api_Part_api_Part_api_Part_api_Part) snd_slices_EqualFunc_api_Part_api_Part_api_Part_api_Part (env_cons (s := RoF S_hello_samePart) snd_hello_samePart (env_cons (s := RoF S_match_Same) snd_match_Same (env_cons (s := RoF S_acts_Same) snd_acts_Same (env_cons (s := RoF S_instr_Same) snd_instr_Same (env_cons (s := RoF S_bucket_Same) snd_bucket_Same (env_cons (s := RoF S_band_Same) snd_band_Same (env_cons (s := RoF S_queue_Same) snd_queue_Same (env_cons (s := RoF S_port_Same) snd_port_Same (env_nil _)))))))))))))) fun args objs p v e => ?_
  unfold S_hello_Same at e
  split at e
  · rename_i a0 a1 a2 a3 a4 a5 ty0 a6 ty1 a7 ty2 a8 a9 a10 ty3 a11 a12 a13 ty4 a14 b0 b1 b2 b3 b4 b5 ty5 b6 ty6 b7 ty7 b8 b9 b10 ty8 b11 b12 b13 ty9 b14
    obtain rfl := castO_ty e
    replace e := castO_go e
    obtain rfl := castO_ty e
    replace e := castO_go e
    obtain rfl := castO_ty e
    replace e := castO_go e
    obtain rfl := castO_ty e
    replace e := castO_go e
    obtain rfl := castO_ty e
    replace e := castO_go e
    obtain rfl := castO_ty e
    replace e := castO_go e
    obtain rfl := castO_ty e
    replace e := castO_go e
    obtain rfl := castO_ty e
    replace e := castO_go e
    obtain rfl := castO_ty e
    replace e := castO_go e
    obtain rfl := castO_ty e
    replace e := castO_go e
    cases e
    refine ⟨rfl, fun hw ho hp => ?_⟩
    change List Int at a2
    change List Int at a3
    change List Int at b2
    change List Int at b3
    clear hw ho
    repeat' (intro t ht; first | (cases t <;> first | (cases ht; done) | ((try simp only [bn_s] at ht); (try simp only [nd_s] at ht); (try (exfalso; first | contradiction | omega)))) | (refine castG_go ht ?_; clear ht) | (refine ht ?_ ?_ <;> clear ht) | (refine ht.1 ?_ ?_ <;> clear ht) | (refine ht ?_; clear ht))
    all_goals first
      | exact True.intro
      | (refine ⟨congrArg AV.bool ?_, rfl⟩; rw [Bool.eq_iff_iff]; simp only [Bool.and_eq_true, decide_eq_true_eq, beq_iff_eq, Prod.mk.injEq, and_true, and_assoc]; done)
      | (refine ⟨congrArg AV.bool ?_, rfl⟩; simp_all [Bool.and_assoc]; done)
      | (refine ⟨congrArg AV.bool ?_, rfl⟩; rw [Bool.eq_iff_iff]; simp_all [and_assoc]; done)
      | skip
  · cases e
def fwBd (x : VBd) : Bool := decide (x.2.2.2.2.1.length ≤ 500)
def fewVBd (l : List VBd) : Bool := l.all fwBd && decide (l.length ≤ 20)
def ir_r17_Few : IR :=
(.seq
(.keep [0]
(.reg [oD 2 (.mov cF)]))
(.seq
(.seq
(.reg [oD 3 (.mov (cI 0))])
(.block 0
(.loop
(.seq
(.seq
(.keep [0, 3]
(.reg [oM 4 3,
oM 5 0,
oE 6 5,
oB 7 .lss (.t 4) (.t 6)]))
(.cond (.t 7)
.skip
(.exit 0)))
(.seq
(.block 1
(.seq
(.keep [0, 3]
(.reg [oM 10 0,
oM 11 3,
oI 12 5 10 11,
oA 13 4 12,
oL 14 13,
oE 15 14,
oB 16 .gtr (.t 15) (cI 500)]))
(.cond (.t 16)
(.seq
(.keep []
(.reg [oD 2 (.mov cF)]))
.ret)
.skip)))
(.keep [0, 3]
(.reg [oM 8 3,
oB 9 .add (.t 8) (cI 1),
oM 3 9])))))))
(.seq
(.keep [0]
(.reg [oM 17 0,
oE 18 17,
oB 19 .leq (.t 18) (cI 20),
oM 2 19]))
.ret)))
def rd_r17_Few : List RD := [.tmp 2 true none]
theorem ok_r17_Few : fnOk Tryz.prog Tryz.f42 ir_r17_Few rd_r17_Few = true := by kernel_rfl
def S_r17_Few : List AV → List Obj → Option (Prop × AV)
  | [.imm (.cons (.int .i64) (.cons (.int .u64) (.cons (.int .u64) (.cons (.int .u64) (.cons (.sl (.int .u8)) .nil))))) l], [] => some ((True, .bool (fewVBd l)))
  | _, _ => none
theorem snd_r17_Few : SoundS Tryz.prog 42 (RoF S_r17_Few).sum := by
  refine ro_fn Tryz.func42 ok_r17_Few (env_nil _) fun args objs p v e => ?_
  unfold S_r17_Few at e
  split at e
  · rename_i l
    cases e
    refine ⟨rfl, fun hw ho hp => ?_⟩
    change List VBd at l
    have hl : l.length ≤ maxLen := (hw (.imm Y5 l) (by simp)).2
    unfold maxLen at hl
    clear hw ho
    repeat' (intro t ht; first | (cases t <;> first | (cases ht; done) | ((try simp only [bn_s] at ht); (try simp only [nd_s] at ht))) | (refine castG_go ht ?_; clear ht) | (refine ht ?_ ?_ <;> clear ht) | (refine ht.1 ?_ ?_ <;> clear ht) | (refine ht ?_; clear ht))
    all_goals first
      | (intro r h1 h2; clear h1; refine h2 ⟨[0, 3], Nat, (fun i => i ≤ l.length ∧ (l.take i).all fwBd = true), fun i => [.imm Y5 l, .int .i64 i], fun _ => [], fun i => l.length - i, ⟨0, ⟨Nat.zero_le _, rfl⟩, rfl, rfl⟩, ?_⟩; clear h2)
    rintro i ⟨hi, he⟩
    repeat' (intro t ht; first | (cases t <;> first | (cases ht; done) | ((try simp only [bn_s] at ht); (try simp only [nd_s] at ht); (try (exfalso; first | contradiction | omega)))) | (refine castG_go ht ?_; clear ht) | (refine ht ?_ ?_ <;> clear ht) | (refine ht.1 ?_ ?_ <;> clear ht) | (refine ht ?_; clear ht))
    all_goals (try generalize (Ty.dflt Y5) = od at *)
    all_goals first
      | exact True.intro
      | ((try simp only [nd_s, bn_s, mm_s] at *); omega)
      | (have h := allT_end (by omega) he
         refine ⟨?_, rfl⟩; unfold fewVBd; rw [h, Bool.true_and]; congr 1; exact decide_eq_decide.2 (by omega))
      | (have hf : fwBd (l.getD i od) = true := by unfold fwBd; simp only [Bool.and_eq_true, decide_eq_true_eq]; omega
         exact ⟨i + 1, ⟨by omega, allT_step (d := od) (by omega) he hf⟩, by dsimp only; omega, rfl, rfl⟩)
      | (have hf : fwBd (l.getD i od) = false := by unfold fwBd; simp only [Bool.and_eq_false_iff, decide_eq_false_iff_not]; first | omega | (left; assumption) | (right; omega) | (left; left; assumption) | (left; right; omega) | (left; omega)
         have h : fewVBd l = false := by unfold fewVBd; rw [all_miss (d := od) (show i < l.length by omega) hf, Bool.false_and]
         refine ⟨?_, rfl⟩; rw [h]; done)
      | skip
  · cases e
def fwIn (x : VIn) : Bool := fewL x.2.2.2.1 && decide (x.2.2.2.2.1.length ≤ 500)
def fewVIn (l : List VIn) : Bool := l.all fwIn && decide (l.length ≤ 20)
def ir_r15_Few : IR :=
(.seq
(.keep [0]
(.reg [oD 2 (.mov cF)]))
(.seq
(.seq
(.reg [oD 3 (.mov (cI 0))])
(.block 0
(.loop
(.seq
(.seq
(.keep [0, 3]
(.reg [oM 4 3,
oM 5 0,
oE 6 5,
oB 7 .lss (.t 4) (.t 6)]))
(.cond (.t 7)
.skip
(.exit 0)))
(.seq
(.block 1
(.seq
(.keep [0, 3]
(.reg [oM 10 0,
oM 11 3,
oI 12 5 10 11,
oA 13 3 12,
oL 14 13,
oC 15 39 [.t 14],
oD 16 (.un .not (.t 15)),
oM 17 16,
oF 17 18 (.mov (.t 0)),
oF 17 19 (.mov (.t 3)),
oF 17 20 (.indexSl 5 (.t 18) (.t 19)),
oF 17 21 (.fieldAddr 4 (.t 20)),
oF 17 22 (.load none (.t 21)),
oF 17 23 (.len (.t 22)),
oF 17 24 (.bin .gtr (.t 23) (cI 500)),
oP 25 17 cT (.t 24)]))
(.cond (.t 25)
(.seq
(.keep []
(.reg [oD 2 (.mov cF)]))
.ret)
.skip)))
(.keep [0, 3]
(.reg [oM 8 3,
oB 9 .add (.t 8) (cI 1),
oM 3 9])))))))
(.seq
(.keep [0]
(.reg [oM 26 0,
oE 27 26,
oB 28 .leq (.t 27) (cI 20),
oM 2 28]))
.ret)))
def rd_r15_Few : List RD := [.tmp 2 true none]
theorem ok_r15_Few : fnOk Tryz.prog Tryz.f40 ir_r15_Few rd_r15_Few = true := by kernel_rfl
def S_r15_Few : List AV → List Obj → Option (Prop × AV)
  | [.imm ty0 l], [] => castO ty0 Y3 l fun l => some ((True, .bool (fewVIn l)))
  | _, _ => none
theorem snd_r15_Few : SoundS Tryz.prog 40 (RoF S_r15_Few).sum := by
  refine ro_fn Tryz.func40 ok_r15_Few (env_cons (s := RoF S_r13_Few) snd_r13_Few (env_nil _)) fun args objs p v e => ?_
  unfold S_r15_Few at e
  split at e
  · rename_i ty0 l
    obtain rfl := castO_ty e
    replace e := castO_go e
    cases e
    refine ⟨rfl, fun hw ho hp => ?_⟩
    change List VIn at l
    have hl : l.length ≤ maxLen := (hw (.imm Y3 l) (by simp)).2
    unfold maxLen at hl
    clear hw ho
    repeat' (intro t ht; first | (cases t <;> first | (cases ht; done) | ((try simp only [bn_s] at ht); (try simp only [nd_s] at ht))) | (refine castG_go ht ?_; clear ht) | (refine ht ?_ ?_ <;> clear ht) | (refine ht.1 ?_ ?_ <;> clear ht) | (refine ht ?_; clear ht))
    all_goals first
      | (intro r h1 h2; clear h1; refine h2 ⟨[0, 3], Nat, (fun i => i ≤ l.length ∧ (l.take i).all fwIn = true), fun i => [.imm Y3 l, .int .i64 i], fun _ => [], fun i => l.length - i, ⟨0, ⟨Nat.zero_le _, rfl⟩, rfl, rfl⟩, ?_⟩; clear h2)
    rintro i ⟨hi, he⟩
    repeat' (intro t ht; first | (cases t <;> first | (cases ht; done) | ((try simp only [bn_s] at ht); (try simp only [nd_s] at ht); (try (exfalso; first | contradiction | omega)))) | (refine castG_go ht ?_; clear ht) | (refine ht ?_ ?_ <;> clear ht) | (refine ht.1 ?_ ?_ <;> clear ht) | (refine ht ?_; clear ht))
    all_goals (try generalize (Ty.dflt Y3) = od at *)
    all_goals first
      | exact True.intro
      | ((try simp only [nd_s, bn_s, mm_s] at *); omega)
      | (have h := allT_end (by omega) he
         refine ⟨?_, rfl⟩; unfold fewVIn; rw [h, Bool.true_and]; congr 1; exact decide_eq_decide.2 (by omega))
      | (have hf : fwIn (l.getD i od) = true := by unfold fwIn; simp only [Bool.and_eq_true, decide_eq_true_eq]; exact ⟨by assumption, by omega⟩
         exact ⟨i + 1, ⟨by omega, allT_step (d := od) (by omega) he hf⟩, by dsimp only; omega, rfl, rfl⟩)
      | (have hf : fwIn (l.getD i od) = false := by unfold fwIn; simp only [Bool.and_eq_false_iff, decide_eq_false_iff_not]; first | omega | (left; assumption) | (right; omega) | (left; left; assumption) | (left; right; omega) | (left; omega)
         have h : fewVIn l = false := by unfold fewVIn; rw [all_miss (d := od) (show i < l.length by omega) hf, Bool.false_and]
         refine ⟨?_, rfl⟩; rw [h]; done)
      | skip
  · cases e
def fwPr (x : VPr) : Bool := decide (x.2.2.1.length ≤ 300)
def fwQu (x : VQu) : Bool := x.2.2.1.all fwPr && (decide (x.2.2.1.length ≤ 20))
def fewVQu (l : List VQu) : Bool := l.all fwQu && decide (l.length ≤ 20)
def ir_r18_Few : IR :=
(.seq
(.keep [0]
(.reg [oD 2 (.mov cF)]))
(.seq
(.seq
(.reg [oD 3 (.mov (cI 0))])
(.block 0
(.loop
(.seq
(.seq
(.keep [0, 3]
(.reg [oM 5 3,
oM 6 0,
oE 7 6,
oB 8 .lss (.t 5) (.t 7)]))
(.cond (.t 8)
.skip
(.exit 0)))
(.seq
(.block 1
(.seq
(.seq
(.reg [oD 4 (.mov (cI 0))])
(.block 2
(.loop
(.seq
(.seq
(.keep [0, 3, 4]
(.reg [oM 11 4,
oM 12 0,
oM 13 3,
oI 14 3 12 13,
oA 15 2 14,
oL 16 15,
oE 17 16,
oB 18 .lss (.t 11) (.t 17)]))
(.cond (.t 18)
.skip
(.exit 2)))
(.seq
(.block 3
(.seq
(.keep [0, 3, 4]
(.reg [oM 21 0,
oM 22 3,
oI 23 3 21 22,
oA 24 2 23,
oL 25 24,
oM 26 4,
oI 27 3 25 26,
oA 28 2 27,
oL 29 28,
oE 30 29,
oB 31 .gtr (.t 30) (cI 300)]))
(.cond (.t 31)
(.seq
(.keep []
(.reg [oD 2 (.mov cF)]))
.ret)
.skip)))
(.keep [0, 3, 4]
(.reg [oM 19 4,
oB 20 .add (.t 19) (cI 1),
oM 4 20])))))))
(.seq
(.keep [0, 3]
(.reg [oM 32 0,
oM 33 3,
oI 34 3 32 33,
oA 35 2 34,
oL 36 35,
oE 37 36,
oB 38 .gtr (.t 37) (cI 20)]))
(.cond (.t 38)
(.seq
(.keep []
(.reg [oD 2 (.mov cF)]))
.ret)
.skip))))
(.keep [0, 3]
(.reg [oM 9 3,
oB 10 .add (.t 9) (cI 1),
oM 3 10])))))))
(.seq
(.keep [0]
(.reg [oM 39 0,
oE 40 39,
oB 41 .leq (.t 40) (cI 20),
oM 2 41]))
.ret)))
def rd_r18_Few : List RD := [.tmp 2 true none]
theorem ok_r18_Few : fnOk Tryz.prog Tryz.f43 ir_r18_Few rd_r18_Few = true := by kernel_rfl
def S_r18_Few : List AV → List Obj → Option (Prop × AV)
  | [.imm (.cons (.int .u64) (.cons (.int .u64) (.cons (.sl (.cons (.int .i64) (.cons (.int .u64) (.cons (.sl (.int .u8)) .nil)))) .nil))) l], [] => some ((True, .bool (fewVQu l)))
  | _, _ => none
theorem snd_r18_Few : SoundS Tryz.prog 43 (RoF S_r18_Few).sum := by
  refine ro_fn Tryz.func43 ok_r18_Few (env_nil _) fun args objs p v e => ?_
  unfold S_r18_Few at e
  split at e
  · rename_i l
    cases e
    refine ⟨rfl, fun hw ho hp => ?_⟩
    change List VQu at l
    have hl : l.length ≤ maxLen := (hw (.imm Y7 l) (by simp)).2
    have hi2 : ∀ i, i < l.length → (l.getD i (Ty.dflt Y7)).2.2.1.length ≤ maxLen := fun i h => by have h2 := (hw (.imm Y7 l) (by simp)).1 _ (getD_mem' h (Ty.dflt Y7)); simp only [Ty.wf] at h2; simp_all
    unfold maxLen at hl hi2
    clear hw ho
    repeat' (intro t ht; first | (cases t <;> first | (cases ht; done) | ((try simp only [bn_s] at ht); (try simp only [nd_s] at ht))) | (refine castG_go ht ?_; clear ht) | (refine ht ?_ ?_ <;> clear ht) | (refine ht.1 ?_ ?_ <;> clear ht) | (refine ht ?_; clear ht))
    all_goals first
      | (intro r h1 h2; clear h1; refine h2 ⟨[0, 3], Nat, (fun i => i ≤ l.length ∧ (l.take i).all fwQu = true), fun i => [.imm Y7 l, .int .i64 i], fun _ => [], fun i => l.length - i, ⟨0, ⟨Nat.zero_le _, rfl⟩, rfl, rfl⟩, ?_⟩; clear h2)
    rintro i ⟨hi, he⟩
    repeat' (intro t ht; first | (cases t <;> first | (cases ht; done) | ((try simp only [bn_s] at ht); (try simp only [nd_s] at ht); (try (exfalso; first | contradiction | omega)))) | (refine castG_go ht ?_; clear ht) | (refine ht ?_ ?_ <;> clear ht) | (refine ht.1 ?_ ?_ <;> clear ht) | (refine ht ?_; clear ht))
    all_goals first
      | exact True.intro
      | ((try simp only [nd_s, bn_s, mm_s] at *); omega)
      | (have h := allT_end (by omega) he
         refine ⟨?_, rfl⟩; unfold fewVQu; rw [h, Bool.true_and]; congr 1; exact decide_eq_decide.2 (by omega))
      | (intro r h1 h2; clear h1; refine h2 ⟨[0, 3, 4], Nat, (fun k => k ≤ (l.getD i (Ty.dflt Y7)).2.2.1.length ∧ ((l.getD i (Ty.dflt Y7)).2.2.1.take k).all fwPr = true), fun k => [.imm Y7 l, .int .i64 i, .int .i64 k], fun _ => [], fun k => (l.getD i (Ty.dflt Y7)).2.2.1.length - k, ⟨0, ⟨Nat.zero_le _, rfl⟩, rfl, rfl⟩, ?_⟩; clear h2)
      | skip
    have hi3 : i < l.length := by omega
    have hi4 := hi2 i hi3
    rintro k ⟨hk, hke⟩
    repeat' (intro t ht; first | (cases t <;> first | (cases ht; done) | ((try simp only [bn_s] at ht); (try simp only [nd_s] at ht); (try (exfalso; first | contradiction | omega)))) | (refine castG_go ht ?_; clear ht) | (refine ht ?_ ?_ <;> clear ht) | (refine ht.1 ?_ ?_ <;> clear ht) | (refine ht ?_; clear ht))
    all_goals (try generalize (Ty.dflt Y7) = od at *)
    all_goals (try generalize (Ty.dflt Y6) = pd at *)
    all_goals first
      | exact True.intro
      | ((try simp only [nd_s, bn_s, mm_s] at *); omega)
      | (have hf : fwPr ((l.getD i od).2.2.1.getD k pd) = true := by unfold fwPr; simp only [Bool.and_eq_true, decide_eq_true_eq]; omega
         exact ⟨k + 1, ⟨by omega, allT_step (d := pd) (by omega) hke hf⟩, by dsimp only; omega, rfl, rfl⟩)
      | (have hf : fwPr ((l.getD i od).2.2.1.getD k pd) = false := by unfold fwPr; simp only [Bool.and_eq_false_iff, decide_eq_false_iff_not]; omega
         have hg : fwQu (l.getD i od) = false := by unfold fwQu; rw [all_miss (d := pd) (by omega) hf, Bool.false_and]
         have h : fewVQu l = false := by unfold fewVQu; rw [all_miss (d := od) hi3 hg, Bool.false_and]
         refine ⟨?_, rfl⟩; rw [h]; done)
      | (have ha := allT_end (by omega) hke
         have hg : fwQu (l.getD i od) = true := by unfold fwQu; rw [ha, Bool.true_and]; simp only [Bool.and_eq_true, decide_eq_true_eq]; omega
         exact ⟨i + 1, ⟨by omega, allT_step (d := od) hi3 he hg⟩, by dsimp only; omega, rfl, rfl⟩)
      | (have hg : fwQu (l.getD i od) = false := by unfold fwQu; rw [Bool.and_eq_false_iff]; right; simp only [Bool.and_eq_false_iff, decide_eq_false_iff_not]; omega
         have h : fewVQu l = false := by unfold fewVQu; rw [all_miss (d := od) hi3 hg, Bool.false_and]
         refine ⟨?_, rfl⟩; rw [h]; done)
      | skip
  · cases e
def fwFe (x : VFe) : Bool := decide (x.2.1.length ≤ 100) && decide (x.2.2.1.length ≤ 300)
def fwTb (x : VTb) : Bool := x.2.2.2.2.2.2.1.all fwFe && (decide (x.2.2.2.2.2.2.1.length ≤ 20) && decide (x.2.1.length ≤ 100))
def fewVTb (l : List VTb) : Bool := l.all fwTb && decide (l.length ≤ 12)
def ir_r20_Few : IR :=
(.seq
(.keep [0]
(.reg [oD 2 (.mov cF)]))
(.seq
(.seq
(.reg [oD 3 (.mov (cI 0))])
(.block 0
(.loop
(.seq
(.seq
(.keep [0, 3]
(.reg [oM 5 3,
oM 6 0,
oE 7 6,
oB 8 .lss (.t 5) (.t 7)]))
(.cond (.t 8)
.skip
(.exit 0)))
(.seq
(.block 1
(.seq
(.seq
(.reg [oD 4 (.mov (cI 0))])
(.block 2
(.loop
(.seq
(.seq
(.keep [0, 3, 4]
(.reg [oM 11 4,
oM 12 0,
oM 13 3,
oI 14 7 12 13,
oA 15 6 14,
oL 16 15,
oE 17 16,
oB 18 .lss (.t 11) (.t 17)]))
(.cond (.t 18)
.skip
(.exit 2)))
(.seq
(.block 3
(.seq
(.keep [0, 3, 4]
(.reg [oM 21 0,
oM 22 3,
oI 23 7 21 22,
oA 24 6 23,
oL 25 24,
oM 26 4,
oI 27 3 25 26,
oA 28 1 27,
oL 29 28,
oE 30 29,
oB 31 .gtr (.t 30) (cI 100),
oM 32 31,
oF 32 33 (.mov (.t 0)),
oF 32 34 (.mov (.t 3)),
oF 32 35 (.indexSl 7 (.t 33) (.t 34)),
oF 32 36 (.fieldAddr 6 (.t 35)),
oF 32 37 (.load none (.t 36)),
oF 32 38 (.mov (.t 4)),
oF 32 39 (.indexSl 3 (.t 37) (.t 38)),
oF 32 40 (.fieldAddr 2 (.t 39)),
oF 32 41 (.load none (.t 40)),
oF 32 42 (.len (.t 41)),
oF 32 43 (.bin .gtr (.t 42) (cI 300)),
oP 44 32 cT (.t 43)]))
(.cond (.t 44)
(.seq
(.keep []
(.reg [oD 2 (.mov cF)]))
.ret)
.skip)))
(.keep [0, 3, 4]
(.reg [oM 19 4,
oB 20 .add (.t 19) (cI 1),
oM 4 20])))))))
(.seq
(.keep [0, 3]
(.reg [oM 45 0,
oM 46 3,
oI 47 7 45 46,
oA 48 6 47,
oL 49 48,
oE 50 49,
oB 51 .gtr (.t 50) (cI 20),
oM 52 51,
oF 52 53 (.mov (.t 0)),
oF 52 54 (.mov (.t 3)),
oF 52 55 (.indexSl 7 (.t 53) (.t 54)),
oF 52 56 (.fieldAddr 1 (.t 55)),
oF 52 57 (.load none (.t 56)),
oF 52 58 (.slen (.t 57)),
oF 52 59 (.bin .gtr (.t 58) (cI 100)),
oP 60 52 cT (.t 59)]))
(.cond (.t 60)
(.seq
(.keep []
(.reg [oD 2 (.mov cF)]))
.ret)
.skip))))
(.keep [0, 3]
(.reg [oM 9 3,
oB 10 .add (.t 9) (cI 1),
oM 3 10])))))))
(.seq
(.keep [0]
(.reg [oM 61 0,
oE 62 61,
oB 63 .leq (.t 62) (cI 12),
oM 2 63]))
.ret)))
def rd_r20_Few : List RD := [.tmp 2 true none]
theorem ok_r20_Few : fnOk Tryz.prog Tryz.f88 ir_r20_Few rd_r20_Few = true := by kernel_rfl
def S_r20_Few : List AV → List Obj → Option (Prop × AV)
  | [.imm ty0 l], [] => castO ty0 YA l fun l => some ((True, .bool (fewVTb l)))
  | _, _ => none
theorem snd_r20_Few : SoundS Tryz.prog 88 (RoF S_r20_Few).sum := by
  refine ro_fn Tryz.func88 ok_r20_Few (env_nil _) fun args objs p v e => ?_
  unfold S_r20_Few at e
  split at e
  · rename_i ty0 l
    obtain rfl := castO_ty e
    replace e := castO_go e
    cases e
    refine ⟨rfl, fun hw ho hp => ?_⟩
    change List VTb at l
    have hl : l.length ≤ maxLen := (hw (.imm YA l) (by simp)).2
    have hi2 : ∀ i, i < l.length → (l.getD i (Ty.dflt YA)).2.2.2.2.2.2.1.length ≤ maxLen := fun i h => by have h2 := (hw (.imm YA l) (by simp)).1 _ (getD_mem' h (Ty.dflt YA)); simp only [Ty.wf] at h2; simp_all
    unfold maxLen at hl hi2
    clear hw ho
    repeat' (intro t ht; first | (cases t <;> first | (cases ht; done) | ((try simp only [bn_s] at ht); (try simp only [nd_s] at ht))) | (refine castG_go ht ?_; clear ht) | (refine ht ?_ ?_ <;> clear ht) | (refine ht.1 ?_ ?_ <;> clear ht) | (refine ht ?_; clear ht))
    all_goals first
      | (intro r h1 h2; clear h1; refine h2 ⟨[0, 3], Nat, (fun i => i ≤ l.length ∧ (l.take i).all fwTb = true), fun i => [.imm YA l, .int .i64 i], fun _ => [], fun i => l.length - i, ⟨0, ⟨Nat.zero_le _, rfl⟩, rfl, rfl⟩, ?_⟩; clear h2)
    rintro i ⟨hi, he⟩
    repeat' (intro t ht; first | (cases t <;> first | (cases ht; done) | ((try simp only [bn_s] at ht); (try simp only [nd_s] at ht); (try (exfalso; first | contradiction | omega)))) | (refine castG_go ht ?_; clear ht) | (refine ht ?_ ?_ <;> clear ht) | (refine ht.1 ?_ ?_ <;> clear ht) | (refine ht ?_; clear ht))
    all_goals first
      | exact True.intro
      | ((try simp only [nd_s, bn_s, mm_s] at *); omega)
      | (have h := allT_end (by omega) he
         refine ⟨?_, rfl⟩; unfold fewVTb; rw [h, Bool.true_and]; congr 1; exact decide_eq_decide.2 (by omega))
      | (intro r h1 h2; clear h1; refine h2 ⟨[0, 3, 4], Nat, (fun k => k ≤ (l.getD i (Ty.dflt YA)).2.2.2.2.2.2.1.length ∧ ((l.getD i (Ty.dflt YA)).2.2.2.2.2.2.1.take k).all fwFe = true), fun k => [.imm YA l, .int .i64 i, .int .i64 k], fun _ => [], fun k => (l.getD i (Ty.dflt YA)).2.2.2.2.2.2.1.length - k, ⟨0, ⟨Nat.zero_le _, rfl⟩, rfl, rfl⟩, ?_⟩; clear h2)
      | skip
    have hi3 : i < l.length := by omega
    have hi4 := hi2 i hi3
    rintro k ⟨hk, hke⟩
    repeat' (intro t ht; first | (cases t <;> first | (cases ht; done) | ((try simp only [bn_s] at ht); (try simp only [nd_s] at ht); (try (exfalso; first | contradiction | omega)))) | (refine castG_go ht ?_; clear ht) | (refine ht ?_ ?_ <;> clear ht) | (refine ht.1 ?_ ?_ <;> clear ht) | (refine ht ?_; clear ht))
    all_goals (try generalize (Ty.dflt YA) = od at *)
    all_goals (try generalize (Ty.dflt Y9) = pd at *)
    all_goals first
      | exact True.intro
      | ((try simp only [nd_s, bn_s, mm_s] at *); omega)
      | (have hf : fwFe ((l.getD i od).2.2.2.2.2.2.1.getD k pd) = true := by unfold fwFe; simp only [Bool.and_eq_true, decide_eq_true_eq]; omega
         exact ⟨k + 1, ⟨by omega, allT_step (d := pd) (by omega) hke hf⟩, by dsimp only; omega, rfl, rfl⟩)
      | (have hf : fwFe ((l.getD i od).2.2.2.2.2.2.1.getD k pd) = false := by unfold fwFe; simp only [Bool.and_eq_false_iff, decide_eq_false_iff_not]; omega
         have hg : fwTb (l.getD i od) = false := by unfold fwTb; rw [all_miss (d := pd) (by omega) hf, Bool.false_and]
         have h : fewVTb l = false := by unfold fewVTb; rw [all_miss (d := od) hi3 hg, Bool.false_and]
         refine ⟨?_, rfl⟩; rw [h]; done)
      | (have ha := allT_end (by omega) hke
         have hg : fwTb (l.getD i od) = true := by unfold fwTb; rw [ha, Bool.true_and]; simp only [Bool.and_eq_true, decide_eq_true_eq]; omega
         exact ⟨i + 1, ⟨by omega, allT_step (d := od) hi3 he hg⟩, by dsimp only; omega, rfl, rfl⟩)
      | (have hg : fwTb (l.getD i od) = false := by unfold fwTb; rw [Bool.and_eq_false_iff]; right; simp only [Bool.and_eq_false_iff, decide_eq_false_iff_not]; omega
         have h : fewVTb l = false := by unfold fewVTb; rw [all_miss (d := od) hi3 hg, Bool.false_and]
         refine ⟨?_, rfl⟩; rw [h]; done)
      | skip
  · cases e
end Go.Eng
namespace Go.Eng
open Go.Proofs
set_option linter.unusedVariables false
set_option linter.unusedSimpArgs false
set_option maxRecDepth 100000
set_option maxHeartbeats 1000000
abbrev paZ : VPa := ([], [], [], [], [], [], [], [], [], [], ())
def clP (x : Bool) (p : VPa) : Bool := decide ((([], puT x p.2.1, p.2.2) : VPa) = paZ)
def bdS (w : List Int) (x : Bool) : List VPa → List Int → Int → Option (List Int × Int)
  | [], l, e => some (l, e)
  | p :: r, l, e => if clP x p = true then bdS w x r (puB w x p.1 p.2.1 l 65519 e) (puE w x p.1 p.2.1 l 65519 e) else none
theorem bdS_step {w : List Int} {x : Bool} {ps : List VPa} {i : Nat} {d : VPa} {l : List Int} {e : Int} (h : i < ps.length) : bdS w x (ps.drop i) l e = if clP x (ps.getD i d) = true then bdS w x (ps.drop (i + 1)) (puB w x (ps.getD i d).1 (ps.getD i d).2.1 l 65519 e) (puE w x (ps.getD i d).1 (ps.getD i d).2.1 l 65519 e) else none := by
  rw [drop_step h d]; rfl
def bdR (r : Bool) (k : Int) (ps : List VPa) : List Int × Int := if tK r k = false ∨ (nzM (tM r k) < 2 ∧ ¬ (ps.length : Int) = nzM (tM r k)) then ([], 10001) else match bdS (tW r k) (tX r k) ps [] 0 with
  | some (l, e) => if e = 0 then (l, 0) else ([], 10001)
  | none => ([], 10001)
theorem pS_lim {room : Int} (hr : room ≤ 1000000) : ∀ (t : List (List Int)) (n : List Int) (l : List Int) (e : Int), l.length ≤ 1000000 → (pS room t n l e).1.length ≤ 1000000
  | [], _, l, e, h => by unfold pS; exact h
  | t :: ts, [], l, e, h => by unfold pS; exact h
  | t :: ts, n :: ns, l, e, h => by
    unfold pS; split
    · exact pS_lim hr ts ns _ _ (bufB_lim (bufB_lim h hr) hr)
    · exact h
theorem puB_lim {w : List Int} {x : Bool} {n : List Int} {t : List (List Int)} {l : List Int} {e : Int} (h : l.length ≤ 1000000) : (puB w x n t l 65519 e).length ≤ 1000000 := by
  unfold puB; split
  · exact pS_lim (by decide) _ _ _ _ (rowB_lim h (by decide))
  · exact rowB_lim h (by decide)
def ir_tally_Body : IR :=
(.seq
(.keep [0, 1, 2]
(.reg [oD 6 (.mov (.c (.imm (.int .u8) []))),
oD 7 (.mov (cI 0))]))
(.seq
(.keep [0, 1, 2]
(.reg [oM 16 0,
oM 17 1,
oC 18 18 [.t 16, .t 17],
oM 15 18,
oX 19 15 0,
oX 20 15 1,
oD 8 (.box [.imm (.int .i64) [], .int .i64 0, .kb false]),
oS 3 8 19,
oM 9 20]))
(.seq
(.seq
(.keep [2, 8, 9]
(.reg [oM 21 9,
oD 22 (.un .not (.t 21)),
oM 23 22,
oF 23 24 (.fieldAddr 1 (.t 8)),
oF 23 25 (.load none (.t 24)),
oF 23 26 (.bin .lss (.t 25) (cI 2)),
oF 23 27 (.mov (.t 26)),
oT 27 28 (.mov (.t 2)),
oT 27 29 (.len (.t 28)),
oT 27 30 (.fieldAddr 1 (.t 8)),
oT 27 31 (.load none (.t 30)),
oT 27 32 (.bin .neq (.t 29) (.t 31)),
oF 23 33 (.pick (.t 27) (.t 32) cF),
oP 34 23 cT (.t 33)]))
(.cond (.t 34)
(.seq
(.keep []
(.reg [oD 6 (.mov (.c (.imm (.int .u8) []))),
oD 7 (.mov (cI 10001))]))
.ret)
.skip))
(.seq
(.keep [2, 8]
(.reg [oC 35 19 [(cI 65519)],
oM 10 35]))
(.seq
(.seq
(.reg [oM 36 2,
oE 37 36,
oD 38 (.mov (cI 0))])
(.block 0
(.loop
(.seq
(.keep [8, 10, 36, 37, 38]
(.reg [oB 39 .lss (.t 38) (.t 37)]))
(.seq
(.cond (.t 39)
.skip
(.exit 0))
(.seq
(.block 1
(.seq
(.reg [oI 40 10 36 38,
oK 41 10 40,
oD 12 (.box [.imm (.int .u64) [], .imm .str [], .imm Y1 [], .imm Y3 [], .imm Y4 [], .imm Y5 [], .imm (.sl (.int .u64)) [], .imm Y8 [], .imm YA [], .imm (.int .u8) []]),
oS 10 12 41])
(.seq
(.reg [oK 42 3 8,
oM 43 10,
oC 44 20 [.t 42, .t 43, .t 12]])
(.seq
(.keep [8, 10, 12, 36, 37, 38]
(.regD [(oK 45 10 12, []),
(oD 46 (.sliceAll YC 1 [(0, 10, (.t 45))]), []),
(oD 47 (.build [.int .i64 0, .int .u32 0, .imm (.int .u64) [], .imm (.int .u8) [], .imm YB [], .imm Y1 [], .imm Y2 [], .imm Y3 [], .imm Y4 [], .imm Y5 [], .imm Y7 [], .imm Y8 [], .int .i64 0, .int .i64 0, .imm YC []] [(14, 1, (.t 46))]), []),
(oD 48 (.mkrow YC 240 (([] : List (Ty.den (.int .u64))), (([] : List (Ty.den .str)), (([] : List (Ty.den Y1)), (([] : List (Ty.den Y3)), (([] : List (Ty.den Y4)), (([] : List (Ty.den Y5)), (([] : List (Ty.den (.sl (.int .u64)))), (([] : List (Ty.den Y8)), (([] : List (Ty.den YA)), (([] : List (Ty.den (.int .u8))), ())))))))))) (cI 1) (cI 1)), [0,0,0]),
(oD 49 (.build [.int .i64 0, .int .u32 0, .imm (.int .u64) [], .imm (.int .u8) [], .imm YB [], .imm Y1 [], .imm Y2 [], .imm Y3 [], .imm Y4 [], .imm Y5 [], .imm Y7 [], .imm Y8 [], .int .i64 0, .int .i64 0, .imm YC []] [(14, 1, (.t 48))]), [1,0,0]),
(oC 50 21 [.t 47, .t 49], []),
(oD 51 (.un .not (.t 50)), [])]))
(.cond (.t 51)
(.seq
(.keep []
(.reg [oD 6 (.mov (.c (.imm (.int .u8) []))),
oD 7 (.mov (cI 10001))]))
.ret)
.skip)))))
(.keep [8, 10, 36, 37, 38]
(.reg [oB 52 .add (.t 38) (cI 1),
oM 38 52]))))))))
(.seq
(.keep [10]
(.reg [oM 54 10,
oC 55 22 [.t 54],
oM 53 55,
oX 56 53 0,
oX 57 53 1,
oM 13 56,
oM 14 57]))
(.seq
(.seq
(.keep [13, 14]
(.reg [oM 58 14,
oB 59 .neq (.t 58) (cI 0)]))
(.cond (.t 59)
(.seq
(.reg [oD 6 (.mov (.c (.imm (.int .u8) []))),
oD 7 (.mov (cI 10001))])
.ret)
.skip))
(.seq
(.reg [oM 60 13,
oM 6 60,
oD 7 (.mov (cI 0))])
.ret))))))))
def rd_tally_Body : List RD := [.tmp 6 true (some (.int .u8)), .tmp 7 true none]
theorem ok_tally_Body : fnOk Tryz.prog Tryz.f8 ir_tally_Body rd_tally_Body = true := by kernel_rfl
def S_tally_Body : List AV → List Obj → Option (Prop × AV)
  | [.bool rr, .int .i64 k, .imm ty0 ps], [] => castO ty0 YC ps fun ps => some ((True, .tup [.imm (.int .u8) (bdR rr k ps).1, .int .i64 (bdR rr k ps).2]))
  | _, _ => none
theorem snd_tally_Body : SoundS Tryz.prog 8 (RoF S_tally_Body).sum := by
  refine ro_fn Tryz.func8 ok_tally_Body (env_cons (s := RoF S_tally_of) snd_tally_of (env_cons (s := RwF S_buffer_New) snd_buffer_New (env_cons (s := RwF S_tally_shape_put) snd_tally_shape_put (env_cons (s := RoF S_hello_Same) snd_hello_Same (env_cons (s := RwF S_buffer_Buffer_Done) snd_buffer_Buffer_Done (env_nil _)))))) fun args objs p v e => ?_
  unfold S_tally_Body at e
  split at e
  · rename_i rr k ty0 ps
    obtain rfl := castO_ty e
    replace e := castO_go e
    cases e
    refine ⟨rfl, fun hw ho hp => ?_⟩
    change List VPa at ps
    have hl : ps.length ≤ maxLen := (hw (.imm YC ps) (by simp)).2
    unfold maxLen at hl
    clear hw ho
    have hroom : roomF 65519 = 65519 := by decide
    have hno : tK rr k = false ∨ (nzM (tM rr k) < 2 ∧ ¬ (ps.length : Int) = nzM (tM rr k)) → bdR rr k ps = ([], 10001) := fun h => by unfold bdR; rw [if_pos h]
    have hgo : tK rr k = true → (nzM (tM rr k) < 2 → (ps.length : Int) = nzM (tM rr k)) → bdR rr k ps = match bdS (tW rr k) (tX rr k) ps [] 0 with
      | some (l, e) => if e = 0 then (l, 0) else ([], 10001)
      | none => ([], 10001) := fun h1 h2 => by
      unfold bdR; rw [if_neg]
      rintro (h | h)
      · rw [h1] at h; cases h
      · exact h.2 (h2 h.1)
    repeat' (intro t ht; first | (cases t <;> first | (cases ht; done) | ((try simp only [bn_s] at ht); (try simp only [nd_s] at ht); (try (exfalso; first | contradiction | omega)))) | (refine castG_go ht ?_; clear ht) | (refine ht ?_ ?_ <;> clear ht) | (refine ht.1 ?_ ?_ <;> clear ht) | (refine ht ?_; clear ht))
    all_goals first
      | exact True.intro
      | ((try simp only [nd_s, bn_s, mm_s] at *); omega)
      | (rw [hno (by first | (left; assumption) | (right; exact ⟨by assumption, by assumption⟩))]; exact ⟨rfl, rfl⟩)
      | skip
    all_goals have hgo2 := hgo (by assumption) (fun q => by first | assumption | exact absurd q (by assumption))
    all_goals (intro r h1 h2; clear h1; refine h2 ⟨[8, 10, 36, 37, 38], Nat × List Int × Int, (fun a => a.1 ≤ ps.length ∧ a.2.1.length ≤ 1000000 ∧ bdS (tW rr k) (tX rr k) ps [] 0 = bdS (tW rr k) (tX rr k) (ps.drop a.1) a.2.1 a.2.2), fun a => [.ptr 0 0, .ptr 1 0, .imm YC ps, .int .i64 ps.length, .int .i64 a.1], fun a => [.box [.imm (.int .i64) (tW rr k), .int .i64 (nzM (tM rr k)), .bool (tX rr k)], .box [.own 2, .int .i64 65519, .mapv 3, .int .i64 a.2.2], .row false (.int .u8) a.2.1, .map true (.int .i64) (.int .i64) ([])], fun a => ps.length - a.1, ⟨(0, [], 0), ⟨Nat.zero_le _, by simp, rfl⟩, rfl, by rw [hroom]; rfl⟩, ?_⟩; clear h2)
    all_goals rintro ⟨i, b, e⟩ ⟨hi, hb, he⟩
    all_goals dsimp only at hi hb he
    all_goals repeat' (intro t ht; first | (cases t <;> first | (cases ht; done) | ((try simp only [bn_s] at ht); (try simp only [nd_s] at ht); (try (exfalso; first | contradiction | omega)))) | (refine castG_go ht ?_; clear ht) | (refine ht ?_ ?_ <;> clear ht) | (refine ht.1 ?_ ?_ <;> clear ht) | (refine ht ?_; clear ht))
    all_goals (try generalize (Ty.dflt YC) = pd at *)
    all_goals first
      | exact True.intro
      | ((try simp only [nd_s, bn_s, mm_s] at *); omega)
      | exact ⟨by dsimp only; omega, by simp⟩
      | (rw [List.drop_of_length_le (show ps.length ≤ i by omega)] at he
         rw [hgo2, he]; unfold bdS; dsimp only
         have hd : doneE [] e = if e = 0 then 0 else e := by unfold doneE; simp
         first
           | (have h0 : e = 0 := by
                have h : doneE [] e = 0 := by assumption
                rw [hd] at h; split at h <;> first | assumption | contradiction
              rw [if_pos h0]; subst h0; exact ⟨rfl, rfl⟩)
           | (have h0 : ¬ e = 0 := fun h0 => by
                have h : ¬ doneE [] e = 0 := by assumption
                exact h (by rw [hd, if_pos h0])
              rw [if_neg h0]; exact ⟨rfl, rfl⟩))
      | (have hs := he.trans (bdS_step (d := pd) (by omega))
         have hc : clP (tX rr k) (ps.getD i pd) = true := by
           unfold clP; rw [decide_eq_true_eq]
           have h3 := congrArg (fun m : VMs => m.2.2.2.2.2.2.2.2.2.2.2.2.2.2.1.getD 0 paZ) (by assumption)
           exact h3
         rw [if_pos hc] at hs
         exact ⟨(i + 1, _, _), ⟨by dsimp only; omega, puB_lim hb, hs⟩, by dsimp only; omega, rfl, rfl⟩)
      | (have hs := he.trans (bdS_step (d := pd) (by omega))
         have hc : ¬ clP (tX rr k) (ps.getD i pd) = true := by
           unfold clP; rw [decide_eq_true_eq]
           intro h
           exact absurd (congrArg (fun q : VPa => ((0, 0, [], [], [], [], [], [], [], [], [], [], 0, 0, [q], ()) : VMs)) h) (by assumption)
         rw [if_neg hc] at hs
         rw [hgo2, hs]; exact ⟨rfl, rfl⟩)
      | trace_state
  · cases e
end Go.Eng
namespace Go.Eng
open Go.Proofs
set_option linter.unusedVariables false
set_option linter.unusedSimpArgs false
set_option maxRecDepth 100000
set_option maxHeartbeats 1000000
def txB : List (List Int) → List Int → List Int
  | t :: ts, n :: ns => t ++ (List.replicate (n - t.length).toNat 0 ++ txB ts ns)
  | _, _ => []
def gdP (w : List Int) (x : Bool) (p : VPa) : Bool := putK w p.1 && (!x || (decide (p.2.1.length = 5) && okTs p.2.1 zs))
def onlyP (x : Bool) (p : VPa) : VPa := (p.1, if x = true then p.2.1 else [], [], [], [], [], [], [], [], [], ())
def okP (w : List Int) (x : Bool) (p : VPa) : Bool := gdP w x p && decide (onlyP x p = p)
def ptY (w : List Int) (x : Bool) (p : VPa) : List Int := putB w p.1 ++ (if x = true then txB p.2.1 zs else [])
def rbS (w : List Int) (x : Bool) : List VPa → List Int → Option (List Int)
  | [], l => some l
  | p :: r, l => if okP w x p = true then rbS w x r (l ++ ptY w x p) else none
def rbR (r : Bool) (k : Int) (ps : List VPa) : List Int × Int := if tM r k < 0 ∨ (tM r k < 2 ∧ ¬ (ps.length : Int) = tM r k) then ([], 10001) else match rbS (tW r k) (tX r k) ps [] with
  | some l => if (65519 : Int) < l.length then ([], 10001) else (l, 0)
  | none => ([], 10001)
theorem rbS_step {w : List Int} {x : Bool} {ps : List VPa} {i : Nat} {d : VPa} {l : List Int} (h : i < ps.length) : rbS w x (ps.drop i) l = if okP w x (ps.getD i d) = true then rbS w x (ps.drop (i + 1)) (l ++ ptY w x (ps.getD i d)) else none := by
  rw [drop_step h d]; rfl
theorem pS_ne {room : Int} : ∀ (t : List (List Int)) (n : List Int) (l : List Int) (e : Int), e ≠ 0 → (pS room t n l e).2 ≠ 0
  | [], _, l, e, h => by unfold pS; exact h
  | t :: ts, [], l, e, h => by unfold pS; exact h
  | t :: ts, n :: ns, l, e, h => by
    unfold pS; split
    · exact pS_ne ts ns _ _ (bufE_ne (bufE_ne h))
    · exact failE_ne (by decide)
theorem pS_bad {room : Int} : ∀ (t : List (List Int)) (n : List Int) (l : List Int) (e : Int), okTs t n = false → (pS room t n l e).2 ≠ 0
  | [], _, l, e, h => by unfold okTs at h; cases h
  | t :: ts, [], l, e, h => by unfold okTs at h; cases h
  | t :: ts, n :: ns, l, e, h => by
    unfold okTs at h; unfold pS
    split
    · rename_i hx; rw [hx, Bool.true_and] at h; exact pS_bad ts ns _ _ h
    · exact failE_ne (by decide)
theorem txF_lt {n : Int} {t : List Int} (h : txF n t = true) : (t.length : Int) < n := by
  unfold txF at h; simp only [Bool.and_eq_true, decide_eq_true_eq] at h; exact h.1
theorem pS_ok {room : Int} : ∀ (t : List (List Int)) (n : List Int) (l : List Int), okTs t n = true → (l.length : Int) + (txB t n).length ≤ room → pS room t n l 0 = (l ++ txB t n, 0)
  | [], _, l, _, _ => by unfold pS txB; simp
  | t :: ts, [], l, _, _ => by unfold pS txB; simp
  | t :: ts, n :: ns, l, h, hr => by
    unfold okTs at h; unfold pS
    simp only [Bool.and_eq_true] at h
    unfold txB at hr ⊢
    simp only [List.length_append, List.length_replicate] at hr
    rw [if_pos h.1]
    obtain ⟨a1, a2⟩ := bufB_ok (x := t) (l := l) (room := room) (by omega)
    rw [a1, a2]
    obtain ⟨a3, a4⟩ := bufB_ok (x := List.replicate (n - t.length).toNat 0) (l := l ++ t) (room := room) (by rw [List.length_replicate, List.length_append]; omega)
    rw [a3, a4, pS_ok ts ns _ h.2 (by simp only [List.length_append, List.length_replicate]; omega)]
    simp
theorem pS_full {room : Int} : ∀ (t : List (List Int)) (n : List Int) (l : List Int), (l.length : Int) ≤ room → ¬ (l.length : Int) + (txB t n).length ≤ room → (pS room t n l 0).2 ≠ 0
  | [], _, l, h0, hr => by exfalso; apply hr; unfold txB; simpa using h0
  | t :: ts, [], l, h0, hr => by exfalso; apply hr; unfold txB; simpa using h0
  | t :: ts, n :: ns, l, h0, hr => by
    unfold pS; unfold txB at hr
    simp only [List.length_append, List.length_replicate] at hr
    split
    · by_cases c1 : (t.length : Int) ≤ room - l.length
      · obtain ⟨a1, a2⟩ := bufB_ok c1
        rw [a1, a2]
        by_cases c2 : ((List.replicate (n - t.length).toNat (0 : Int)).length : Int) ≤ room - (l ++ t).length
        · obtain ⟨a3, a4⟩ := bufB_ok c2
          rw [a3, a4]
          simp only [List.length_append, List.length_replicate] at c2
          refine pS_full ts ns _ (by simp only [List.length_append, List.length_replicate]; omega) ?_
          simp only [List.length_append, List.length_replicate]; omega
        · exact pS_ne _ _ _ _ (buf_full c2)
      · exact pS_ne _ _ _ _ (bufE_ne (buf_full c1))
    · exact (failE_ne (by decide) : failE 0 10001 ≠ 0)
theorem pu_good {w : List Int} {x : Bool} {p : VPa} {l : List Int} (h : gdP w x p = true) : ((l.length : Int) + (ptY w x p).length ≤ 65519 → puB w x p.1 p.2.1 l 65519 0 = l ++ ptY w x p ∧ puE w x p.1 p.2.1 l 65519 0 = 0) ∧ ((l.length : Int) ≤ 65519 → ¬ (l.length : Int) + (ptY w x p).length ≤ 65519 → puE w x p.1 p.2.1 l 65519 0 ≠ 0) := by
  unfold gdP at h
  simp only [Bool.and_eq_true] at h
  obtain ⟨hk, hx⟩ := h
  have hB : rowB w p.1 l 65519 0 = bufB (putB w p.1) l 65519 0 := by unfold rowB; rw [if_pos hk]
  have hE : rowE w p.1 l 65519 0 = bufE (putB w p.1) l 65519 0 := by unfold rowE; rw [if_pos hk]
  unfold ptY puB puE
  cases x with
  | false =>
    simp only [Bool.false_eq_true, if_false, false_and, List.append_nil, hB, hE]
    exact ⟨fun h => bufB_ok (by omega), fun _ h => buf_full (by omega)⟩
  | true =>
    simp only [Bool.not_true, Bool.false_or, Bool.and_eq_true, decide_eq_true_eq] at hx
    rw [if_pos rfl, if_pos ⟨rfl, hx.1⟩, if_pos rfl, if_pos hx.1, hB, hE]
    constructor
    · intro h
      simp only [List.length_append] at h
      obtain ⟨a1, a2⟩ := bufB_ok (x := putB w p.1) (l := l) (room := 65519) (by omega)
      rw [a1, a2, pS_ok _ _ _ hx.2 (by simp only [List.length_append]; omega), List.append_assoc]
      exact ⟨rfl, rfl⟩
    · intro h0 h
      simp only [List.length_append] at h
      by_cases c : ((putB w p.1).length : Int) ≤ 65519 - l.length
      · obtain ⟨a1, a2⟩ := bufB_ok c
        rw [a1, a2]
        exact pS_full _ _ _ (by simp only [List.length_append]; omega) (by simp only [List.length_append]; omega)
      · exact pS_ne _ _ _ _ (buf_full c)
theorem pu_bad {w : List Int} {x : Bool} {p : VPa} {l : List Int} {e : Int} (h : gdP w x p = false) : puE w x p.1 p.2.1 l 65519 e ≠ 0 := by
  unfold puE
  by_cases hk : putK w p.1 = true
  · unfold gdP at h
    rw [hk, Bool.true_and] at h
    cases x with
    | false => cases h
    | true =>
      rw [Bool.not_true, Bool.false_or] at h
      rw [if_pos rfl]
      split
      · rename_i h5
        rw [decide_eq_true h5, Bool.true_and] at h
        exact pS_bad _ _ _ _ h
      · exact failE_ne (by decide)
  · have hr : rowE w p.1 l 65519 e ≠ 0 := by unfold rowE; rw [if_neg hk]; exact failE_ne (by decide)
    split
    · split
      · exact pS_ne _ _ _ _ hr
      · exact failE_ne (by decide)
    · exact hr
theorem puE_ne {w : List Int} {x : Bool} {n : List Int} {t : List (List Int)} {l : List Int} {e : Int} (h : e ≠ 0) : puE w x n t l 65519 e ≠ 0 := by
  have hr : rowE w n l 65519 e ≠ 0 := rowE_ne h
  unfold puE
  split
  · split
    · exact pS_ne _ _ _ _ hr
    · exact failE_ne (by decide)
  · exact hr
def badR (o : Option (List Int × Int)) : Prop := ∀ l e, o = some (l, e) → e ≠ 0
theorem bdS_ne {w : List Int} {x : Bool} : ∀ (ps : List VPa) (l : List Int) (e : Int), e ≠ 0 → badR (bdS w x ps l e)
  | [], l, e, h => fun l' e' q => by unfold bdS at q; cases q; exact h
  | p :: r, l, e, h => by
    unfold bdS; split
    · exact bdS_ne r _ _ (puE_ne h)
    · exact fun l' e' q => by cases q
theorem clP_only {x : Bool} {p : VPa} (h : clP x p = true) : onlyP x p = p := by
  unfold clP at h
  have h := of_decide_eq_true h
  obtain ⟨n, t, q⟩ := p
  have h1 : puT x t = [] := congrArg (fun z : VPa => z.2.1) h
  have h2 : q = paZ.2.2 := congrArg (fun z : VPa => z.2.2) h
  subst h2
  unfold onlyP
  cases x with
  | true => rfl
  | false =>
    have h3 : t = [] := by unfold puT at h1; rw [if_neg (fun k => by cases k.1)] at h1; exact h1
    subst h3; rfl
theorem okP_cl {w : List Int} {x : Bool} {p : VPa} (h : okP w x p = true) : clP x p = true := by
  unfold okP at h
  simp only [Bool.and_eq_true, decide_eq_true_eq] at h
  obtain ⟨h1, h2⟩ := h
  obtain ⟨n, t, q⟩ := p
  have h3 : paZ.2.2 = q := congrArg (fun z : VPa => z.2.2) h2
  have h4 : (if x = true then t else []) = t := congrArg (fun z : VPa => z.2.1) h2
  subst h3
  have h5 : puT x t = [] := by
    unfold puT
    cases x with
    | false => rw [if_neg (fun k => by cases k.1)]; exact h4.symm
    | true =>
      unfold gdP at h1
      simp only [Bool.and_eq_true, Bool.not_true, Bool.false_or, decide_eq_true_eq] at h1
      rw [if_pos ⟨rfl, h1.2⟩]
  unfold clP; dsimp only; rw [h5]; exact decide_eq_true rfl
theorem rbS_long {w : List Int} {x : Bool} : ∀ (ps : List VPa) (l m : List Int), rbS w x ps l = some m → l.length ≤ m.length
  | [], l, m, h => by unfold rbS at h; cases h; exact Nat.le_refl _
  | p :: r, l, m, h => by
    unfold rbS at h; split at h
    · have := rbS_long r _ _ h; rw [List.length_append] at this; omega
    · cases h
theorem bd_rb {w : List Int} {x : Bool} : ∀ (ps : List VPa) (l : List Int), (l.length : Int) ≤ 65519 →
    (∀ m, rbS w x ps l = some m → (m.length : Int) ≤ 65519 → bdS w x ps l 0 = some (m, 0)) ∧ ((∀ m, rbS w x ps l = some m → (65519 : Int) < m.length) → badR (bdS w x ps l 0))
  | [], l, h => ⟨fun m q _ => (by unfold rbS at q; cases q; rfl), fun q => absurd (q l rfl) (by omega)⟩
  | p :: r, l, h => by
    unfold rbS bdS
    cases ho : okP w x p with
    | true =>
      have hg : gdP w x p = true := by unfold okP at ho; simp only [Bool.and_eq_true] at ho; exact ho.1
      rw [if_pos rfl, if_pos (okP_cl ho)]
      obtain ⟨g1, g2⟩ := pu_good (l := l) hg
      by_cases c : (l.length : Int) + (ptY w x p).length ≤ 65519
      · obtain ⟨e1, e2⟩ := g1 c
        rw [e1, e2]
        exact bd_rb r _ (by rw [List.length_append]; omega)
      · refine ⟨fun m q1 q2 => ?_, fun _ => bdS_ne r _ _ (g2 h c)⟩
        have := rbS_long r _ _ q1
        rw [List.length_append] at this
        exfalso; omega
    | false =>
      rw [if_neg (by decide)]
      refine ⟨fun m q => (by cases q), fun _ => ?_⟩
      split
      · rename_i hc
        have hg : gdP w x p = false := by
          unfold okP at ho
          rw [decide_eq_true (clP_only hc), Bool.and_true] at ho; exact ho
        exact bdS_ne r _ _ (pu_bad hg)
      · exact fun l' e' q => by cases q
theorem bdR_rbR (r : Bool) (k : Int) (ps : List VPa) : bdR r k ps = rbR r k ps := by
  unfold bdR rbR
  cases hK : tK r k with
  | false =>
    have : ¬ 0 ≤ tM r k := of_decide_eq_false hK
    rw [if_pos (.inl rfl), if_pos (.inl (by omega))]
  | true =>
    have h0 : 0 ≤ tM r k := of_decide_eq_true hK
    have hz : nzM (tM r k) = tM r k := by unfold nzM; rw [if_neg (by omega)]
    rw [hz]
    by_cases c : tM r k < 2 ∧ ¬ (ps.length : Int) = tM r k
    · rw [if_pos (.inr c), if_pos (.inr c)]
    · rw [if_neg (fun h => h.elim (fun h => by cases h) c), if_neg (fun h => h.elim (fun h => by omega) c)]
      obtain ⟨b1, b2⟩ := bd_rb (w := tW r k) (x := tX r k) ps [] (by decide)
      cases hr : rbS (tW r k) (tX r k) ps [] with
      | none =>
        have hb := b2 (fun m q => by rw [hr] at q; cases q)
        dsimp only
        split
        · rename_i l e q; rw [if_neg (hb l e q)]
        · rfl
      | some m =>
        dsimp only
        by_cases c2 : (65519 : Int) < m.length
        · have hb := b2 (fun m' q => by rw [hr] at q; cases q; exact c2)
          rw [if_pos c2]
          split
          · rename_i l e q; rw [if_neg (hb l e q)]
          · rfl
        · rw [if_neg c2, b1 m hr (by omega)]; dsimp only; rw [if_pos rfl]
end Go.Eng
