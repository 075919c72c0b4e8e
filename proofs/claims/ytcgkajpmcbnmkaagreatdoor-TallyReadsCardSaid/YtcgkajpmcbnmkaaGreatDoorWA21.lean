/- Parts of the proof: V6, V4, U3, V5, W6. No condition. -/
import Derived.Test.YtcgkajpmcbnmkaaGreatDoorProg
import Derived.Test.YtcgkajpmcbnmkaaGreatDoorWA10
import Derived.KernelRfl
import Derived.Test.YtcgkajpmcbnmkaaGreatDoorWA20
import Derived.Test.YtcgkajpmcbnmkaaGreatDoorWA16
namespace Go.Eng
open Go.Proofs
set_option linter.unusedVariables false
set_option linter.unusedSimpArgs false
set_option maxRecDepth 100000
set_option maxHeartbeats 1000000
def len400 (x : List Int) : Bool := decide (x.length ≤ 400)
def len30 (x : List Int) : Bool := decide (x.length ≤ 30)
def fwPa (p : VPa) : Bool := p.2.1.all len400 && (p.2.2.2.2.2.2.1.all len30 && (decide (p.1.length ≤ 60) && decide (p.2.1.length ≤ 20) && decide (p.2.2.2.2.2.2.1.length ≤ 40) && decide (p.2.2.2.2.2.2.2.2.2.1.length ≤ 2000) && fewO p.2.2.1 && fewVIn p.2.2.2.1 && fewB p.2.2.2.2.1 && fewVBd p.2.2.2.2.2.1 && fewP p.2.2.2.2.2.2.2.1 && fewVTb p.2.2.2.2.2.2.2.2.1))
def ir_r21_FewPart : IR :=
(.seq
(.keep [0]
(.reg [oD 1 (.boxv (.t 0)),
oD 2 (.mov cF)]))
(.seq
(.seq
(.reg [oD 3 (.mov (cI 0))])
(.block 0
(.loop
(.seq
(.seq
(.keep [1, 3]
(.reg [oM 5 3,
oA 6 1 1,
oL 7 6,
oE 8 7,
oB 9 .lss (.t 5) (.t 8)]))
(.cond (.t 9)
.skip
(.exit 0)))
(.seq
(.block 1
(.seq
(.keep [1, 3]
(.reg [oA 12 1 1,
oL 13 12,
oM 14 3,
oI 15 1 13 14,
oL 16 15,
oD 17 (.slen (.t 16)),
oB 18 .gtr (.t 17) (cI 400)]))
(.cond (.t 18)
(.seq
(.keep []
(.reg [oD 2 (.mov cF)]))
.ret)
.skip)))
(.keep [1, 3]
(.reg [oM 10 3,
oB 11 .add (.t 10) (cI 1),
oM 3 11])))))))
(.seq
(.seq
(.keep [1]
(.reg [oD 4 (.mov (cI 0))]))
(.block 2
(.loop
(.seq
(.seq
(.keep [1, 4]
(.reg [oM 19 4,
oA 20 6 1,
oL 21 20,
oE 22 21,
oB 23 .lss (.t 19) (.t 22)]))
(.cond (.t 23)
.skip
(.exit 2)))
(.seq
(.block 3
(.seq
(.keep [1, 4]
(.reg [oA 26 6 1,
oL 27 26,
oM 28 4,
oI 29 1 27 28,
oL 30 29,
oE 31 30,
oB 32 .gtr (.t 31) (cI 30)]))
(.cond (.t 32)
(.seq
(.keep []
(.reg [oD 2 (.mov cF)]))
.ret)
.skip)))
(.keep [1, 4]
(.reg [oM 24 4,
oB 25 .add (.t 24) (cI 1),
oM 4 25])))))))
(.seq
(.keep [1]
(.reg [oA 33 0 1,
oL 34 33,
oE 35 34,
oB 36 .leq (.t 35) (cI 60),
oM 37 36,
oT 37 38 (.fieldAddr 1 (.t 1)),
oT 37 39 (.load none (.t 38)),
oT 37 40 (.len (.t 39)),
oT 37 41 (.bin .leq (.t 40) (cI 20)),
oP 42 37 (.t 41) cF,
oM 43 42,
oT 43 44 (.fieldAddr 6 (.t 1)),
oT 43 45 (.load none (.t 44)),
oT 43 46 (.len (.t 45)),
oT 43 47 (.bin .leq (.t 46) (cI 40)),
oP 48 43 (.t 47) cF,
oM 49 48,
oT 49 50 (.fieldAddr 9 (.t 1)),
oT 49 51 (.load none (.t 50)),
oT 49 52 (.len (.t 51)),
oT 49 53 (.bin .leq (.t 52) (cI 2000)),
oP 54 49 (.t 53) cF,
oM 55 54,
oT 55 56 (.fieldAddr 2 (.t 1)),
oT 55 57 (.load none (.t 56)),
oT 55 58 (.call false (.f 38) [(.t 57)]),
oP 59 55 (.t 58) cF,
oM 60 59,
oT 60 61 (.fieldAddr 3 (.t 1)),
oT 60 62 (.load none (.t 61)),
oT 60 63 (.call false (.f 40) [(.t 62)]),
oP 64 60 (.t 63) cF,
oM 65 64,
oT 65 66 (.fieldAddr 4 (.t 1)),
oT 65 67 (.load none (.t 66)),
oT 65 68 (.call false (.f 41) [(.t 67)]),
oP 69 65 (.t 68) cF,
oM 70 69,
oT 70 71 (.fieldAddr 5 (.t 1)),
oT 70 72 (.load none (.t 71)),
oT 70 73 (.call false (.f 42) [(.t 72)]),
oP 74 70 (.t 73) cF,
oM 75 74,
oT 75 76 (.fieldAddr 7 (.t 1)),
oT 75 77 (.load none (.t 76)),
oT 75 78 (.call false (.f 44) [(.t 77)]),
oP 79 75 (.t 78) cF,
oM 80 79,
oT 80 81 (.fieldAddr 8 (.t 1)),
oT 80 82 (.load none (.t 81)),
oT 80 83 (.call false (.f 88) [(.t 82)]),
oP 84 80 (.t 83) cF,
oM 2 84]))
.ret))))
def rd_r21_FewPart : List RD := [.tmp 2 true none]
theorem ok_r21_FewPart : fnOk Tryz.prog Tryz.f37 ir_r21_FewPart rd_r21_FewPart = true := by kernel_rfl
def S_r21_FewPart : List AV → List Obj → Option (Prop × AV)
  | [.agg [.imm (.int .u64) a0, .imm .str a1, .imm (.cons (.int .i64) (.cons (.int .i64) (.cons .bool (.cons (.int .u64) (.cons (.sl (.int .u8)) (.cons (.sl (.int .u8)) .nil)))))) a2, .imm ty0 a3, .imm ty1 a4, .imm (.cons (.int .i64) (.cons (.int .u64) (.cons (.int .u64) (.cons (.int .u64) (.cons (.sl (.int .u8)) .nil))))) a5, .imm (.sl (.int .u64)) a6, .imm ty2 a7, .imm ty3 a8, .imm (.int .u8) a9]], [] => castO ty0 Y3 a3 fun a3 => castO ty1 Y4 a4 fun a4 => castO ty2 Y8 a7 fun a7 => castO ty3 YA a8 fun a8 => some ((True, .bool (fwPa (a0, a1, a2, a3, a4, a5, a6, a7, a8, a9, ()))))
  | _, _ => none
theorem snd_r21_FewPart : SoundS Tryz.prog 37 (RoF S_r21_FewPart).sum := by
  refine ro_fn Tryz.func37 ok_r21_FewPart (env_cons (s := RoF S_r09_Few) snd_r09_Few (env_cons (s := RoF S_r15_Few) snd_r15_Few (env_cons (s := RoF S_r16_Few) snd_r16_Few (env_cons (s := RoF S_r17_Few) snd_r17_Few (env_cons (s := RoF S_r19_Few) snd_r19_Few (env_cons (s := RoF S_r20_Few) snd_r20_Few (env_nil _))))))) fun args objs p v e => ?_
  unfold S_r21_FewPart at e
  split at e
  · rename_i a0 a1 a2 ty0 a3 ty1 a4 a5 a6 ty2 a7 ty3 a8 a9
    obtain rfl := castO_ty e
    replace e := castO_go e
    obtain rfl := castO_ty e
    replace e := castO_go e
    obtain rfl := castO_ty e
    replace e := castO_go e
    obtain rfl := castO_ty e
    replace e := castO_go e
    cases e
    refine ⟨rfl, fun hw ho hp => ?_⟩
    change List Int at a0
    change List Int at a9
    change List (List Int) at a1
    change List (List Int) at a6
    have hl1 : a1.length ≤ maxLen := (hw _ (List.mem_cons_self ..) (.imm .str a1) (by simp)).2
    have hl6 : a6.length ≤ maxLen := (hw _ (List.mem_cons_self ..) (.imm (.sl (.int .u64)) a6) (by simp)).2
    unfold maxLen at hl1 hl6
    clear hw ho
    repeat' (intro t ht; first | (cases t <;> first | (cases ht; done) | ((try simp only [bn_s] at ht); (try simp only [nd_s] at ht))) | (refine castG_go ht ?_; clear ht) | (refine ht ?_ ?_ <;> clear ht) | (refine ht.1 ?_ ?_ <;> clear ht) | (refine ht ?_; clear ht))
    all_goals first
      | (intro r h1 h2; clear h1; refine h2 ⟨[1, 3], Nat, (fun i => i ≤ a1.length ∧ (a1.take i).all len400 = true), fun i => [.ptr 0 0, .int .i64 i], fun _ => [.box [.imm (.int .u64) a0, .imm .str a1, .imm Y1 a2, .imm Y3 a3, .imm Y4 a4, .imm Y5 a5, .imm (.sl (.int .u64)) a6, .imm Y8 a7, .imm YA a8, .imm (.int .u8) a9]], fun i => a1.length - i, ⟨0, ⟨Nat.zero_le _, rfl⟩, rfl, rfl⟩, ?_⟩; clear h2)
      | skip
    rintro i ⟨hi, he⟩
    repeat' (intro t ht; first | (cases t <;> first | (cases ht; done) | ((try simp only [bn_s] at ht); (try simp only [nd_s] at ht); (try (exfalso; first | contradiction | omega)))) | (refine castG_go ht ?_; clear ht) | (refine ht ?_ ?_ <;> clear ht) | (refine ht.1 ?_ ?_ <;> clear ht) | (refine ht ?_; clear ht))
    all_goals (try generalize (Ty.dflt .str) = od at *)
    all_goals first
      | exact True.intro
      | ((try simp only [nd_s, bn_s, mm_s] at *); omega)
      | (have hf : len400 (a1.getD i od) = true := decide_eq_true (by omega)
         exact ⟨i + 1, ⟨by omega, allT_step (d := od) (by omega) he hf⟩, by dsimp only; omega, rfl, rfl⟩)
      | (have hf : len400 (a1.getD i od) = false := decide_eq_false (by omega)
         refine ⟨?_, rfl⟩; unfold fwPa; rw [all_miss (d := od) (show i < a1.length by omega) hf, Bool.false_and]; done)
      | (intro r h1 h2; clear h1; refine h2 ⟨[1, 4], Nat, (fun i => i ≤ a6.length ∧ (a6.take i).all len30 = true), fun i => [.ptr 0 0, .int .i64 i], fun _ => [.box [.imm (.int .u64) a0, .imm .str a1, .imm Y1 a2, .imm Y3 a3, .imm Y4 a4, .imm Y5 a5, .imm (.sl (.int .u64)) a6, .imm Y8 a7, .imm YA a8, .imm (.int .u8) a9]], fun i => a6.length - i, ⟨0, ⟨Nat.zero_le _, rfl⟩, rfl, rfl⟩, ?_⟩; clear h2)
      | skip
    have h1 := allT_end (by omega) he
    rintro j ⟨hj, hje⟩
    repeat' (intro t ht; first | (cases t <;> first | (cases ht; done) | ((try simp only [bn_s] at ht); (try simp only [nd_s] at ht); (try (exfalso; first | contradiction | omega)))) | (refine castG_go ht ?_; clear ht) | (refine ht ?_ ?_ <;> clear ht) | (refine ht.1 ?_ ?_ <;> clear ht) | (refine ht ?_; clear ht))
    all_goals (try generalize (Ty.dflt (.sl (.int .u64))) = od at *)
    all_goals first
      | exact True.intro
      | ((try simp only [nd_s, bn_s, mm_s] at *); omega)
      | (have hf : len30 (a6.getD j od) = true := decide_eq_true (by omega)
         exact ⟨j + 1, ⟨by omega, allT_step (d := od) (by omega) hje hf⟩, by dsimp only; omega, rfl, rfl⟩)
      | (have hf : len30 (a6.getD j od) = false := decide_eq_false (by omega)
         refine ⟨?_, rfl⟩; unfold fwPa; rw [h1, all_miss (d := od) (show j < a6.length by omega) hf, Bool.false_and, Bool.and_false]; done)
      | (have h6 := allT_end (by omega) hje
         refine ⟨congrArg AV.bool ?_, rfl⟩; unfold fwPa; rw [h1, h6, Bool.true_and, Bool.true_and]; dsimp only; first | (rw [decide_eq_false (show ¬ a0.length ≤ 60 by omega)]; simp; done) | (rw [decide_eq_false (show ¬ a1.length ≤ 20 by omega)]; simp; done) | (rw [decide_eq_false (show ¬ a6.length ≤ 40 by omega)]; simp; done) | (rw [decide_eq_false (show ¬ a9.length ≤ 2000 by omega)]; simp; done) | (simp_all; done) | (rw [decide_eq_true (show a0.length ≤ 60 by omega), decide_eq_true (show a1.length ≤ 20 by omega), decide_eq_true (show a6.length ≤ 40 by omega), decide_eq_true (show a9.length ≤ 2000 by omega)]; simp [cast_rfl, *]; done))
      | skip
  · cases e
def len500E (x : VEl) : Bool := decide (x.2.1.length ≤ 500)
def fwMs (p : VMs) : Bool := p.2.2.2.2.1.all len500E && (p.2.2.2.2.2.2.2.2.2.2.2.2.2.2.1.all fwPa && (decide (p.2.2.1.length ≤ 60) && decide (p.2.2.2.1.length ≤ 3000) && decide (p.2.2.2.2.1.length ≤ 20) && decide (p.2.2.2.2.2.2.2.2.2.2.2.2.2.2.1.length ≤ 12) && fewO p.2.2.2.2.2.1 && fewL p.2.2.2.2.2.2.1 && fewVIn p.2.2.2.2.2.2.2.1 && fewB p.2.2.2.2.2.2.2.2.1 && fewVBd p.2.2.2.2.2.2.2.2.2.1 && fewVQu p.2.2.2.2.2.2.2.2.2.2.1 && fewP p.2.2.2.2.2.2.2.2.2.2.2.1))
def ir_r21_Few : IR :=
(.seq
(.keep [0]
(.reg [oD 1 (.boxv (.t 0)),
oD 2 (.mov cF)]))
(.seq
(.seq
(.reg [oD 3 (.mov (cI 0))])
(.block 0
(.loop
(.seq
(.seq
(.keep [1, 3]
(.reg [oM 5 3,
oA 6 4 1,
oL 7 6,
oE 8 7,
oB 9 .lss (.t 5) (.t 8)]))
(.cond (.t 9)
.skip
(.exit 0)))
(.seq
(.block 1
(.seq
(.keep [1, 3]
(.reg [oA 12 4 1,
oL 13 12,
oM 14 3,
oI 15 2 13 14,
oA 16 1 15,
oL 17 16,
oE 18 17,
oB 19 .gtr (.t 18) (cI 500)]))
(.cond (.t 19)
(.seq
(.keep []
(.reg [oD 2 (.mov cF)]))
.ret)
.skip)))
(.keep [1, 3]
(.reg [oM 10 3,
oB 11 .add (.t 10) (cI 1),
oM 3 11])))))))
(.seq
(.seq
(.keep [1]
(.reg [oD 4 (.mov (cI 0))]))
(.block 2
(.loop
(.seq
(.seq
(.keep [1, 4]
(.reg [oM 20 4,
oA 21 14 1,
oL 22 21,
oE 23 22,
oB 24 .lss (.t 20) (.t 23)]))
(.cond (.t 24)
.skip
(.exit 2)))
(.seq
(.block 3
(.seq
(.keep [1, 4]
(.reg [oA 27 14 1,
oL 28 27,
oM 29 4,
oI 30 10 28 29,
oK 31 10 30,
oC 32 37 [.t 31],
oD 33 (.un .not (.t 32))]))
(.cond (.t 33)
(.seq
(.keep []
(.reg [oD 2 (.mov cF)]))
.ret)
.skip)))
(.keep [1, 4]
(.reg [oM 25 4,
oB 26 .add (.t 25) (cI 1),
oM 4 26])))))))
(.seq
(.keep [1]
(.reg [oA 34 2 1,
oL 35 34,
oE 36 35,
oB 37 .leq (.t 36) (cI 60),
oM 38 37,
oT 38 39 (.fieldAddr 3 (.t 1)),
oT 38 40 (.load none (.t 39)),
oT 38 41 (.len (.t 40)),
oT 38 42 (.bin .leq (.t 41) (cI 3000)),
oP 43 38 (.t 42) cF,
oM 44 43,
oT 44 45 (.fieldAddr 4 (.t 1)),
oT 44 46 (.load none (.t 45)),
oT 44 47 (.len (.t 46)),
oT 44 48 (.bin .leq (.t 47) (cI 20)),
oP 49 44 (.t 48) cF,
oM 50 49,
oT 50 51 (.fieldAddr 14 (.t 1)),
oT 50 52 (.load none (.t 51)),
oT 50 53 (.len (.t 52)),
oT 50 54 (.bin .leq (.t 53) (cI 12)),
oP 55 50 (.t 54) cF,
oM 56 55,
oT 56 57 (.fieldAddr 5 (.t 1)),
oT 56 58 (.load none (.t 57)),
oT 56 59 (.call false (.f 38) [(.t 58)]),
oP 60 56 (.t 59) cF,
oM 61 60,
oT 61 62 (.fieldAddr 6 (.t 1)),
oT 61 63 (.load none (.t 62)),
oT 61 64 (.call false (.f 39) [(.t 63)]),
oP 65 61 (.t 64) cF,
oM 66 65,
oT 66 67 (.fieldAddr 7 (.t 1)),
oT 66 68 (.load none (.t 67)),
oT 66 69 (.call false (.f 40) [(.t 68)]),
oP 70 66 (.t 69) cF,
oM 71 70,
oT 71 72 (.fieldAddr 8 (.t 1)),
oT 71 73 (.load none (.t 72)),
oT 71 74 (.call false (.f 41) [(.t 73)]),
oP 75 71 (.t 74) cF,
oM 76 75,
oT 76 77 (.fieldAddr 9 (.t 1)),
oT 76 78 (.load none (.t 77)),
oT 76 79 (.call false (.f 42) [(.t 78)]),
oP 80 76 (.t 79) cF,
oM 81 80,
oT 81 82 (.fieldAddr 10 (.t 1)),
oT 81 83 (.load none (.t 82)),
oT 81 84 (.call false (.f 43) [(.t 83)]),
oP 85 81 (.t 84) cF,
oM 86 85,
oT 86 87 (.fieldAddr 11 (.t 1)),
oT 86 88 (.load none (.t 87)),
oT 86 89 (.call false (.f 44) [(.t 88)]),
oP 90 86 (.t 89) cF,
oM 2 90]))
.ret))))
def rd_r21_Few : List RD := [.tmp 2 true none]
theorem ok_r21_Few : fnOk Tryz.prog Tryz.f16 ir_r21_Few rd_r21_Few = true := by kernel_rfl
def S_r21_Few : List AV → List Obj → Option (Prop × AV)
  | [.agg [.int .i64 a0, .int .u32 a1, .imm (.int .u64) a2, .imm (.int .u8) a3, .imm (.cons (.int .i64) (.cons (.sl (.int .u8)) .nil)) a4, .imm (.cons (.int .i64) (.cons (.int .i64) (.cons .bool (.cons (.int .u64) (.cons (.sl (.int .u8)) (.cons (.sl (.int .u8)) .nil)))))) a5, .imm ty0 a6, .imm ty1 a7, .imm ty2 a8, .imm (.cons (.int .i64) (.cons (.int .u64) (.cons (.int .u64) (.cons (.int .u64) (.cons (.sl (.int .u8)) .nil))))) a9, .imm (.cons (.int .u64) (.cons (.int .u64) (.cons (.sl (.cons (.int .i64) (.cons (.int .u64) (.cons (.sl (.int .u8)) .nil)))) .nil))) a10, .imm ty3 a11, .int .i64 a12, .int .i64 a13, .imm ty4 a14]], [] => castO ty0 Y2 a6 fun a6 => castO ty1 Y3 a7 fun a7 => castO ty2 Y4 a8 fun a8 => castO ty3 Y8 a11 fun a11 => castO ty4 YC a14 fun a14 => some ((True, .bool (fwMs (a0, a1, a2, a3, a4, a5, a6, a7, a8, a9, a10, a11, a12, a13, a14, ()))))
  | _, _ => none
theorem snd_r21_Few : SoundS Tryz.prog 16 (RoF S_r21_Few).sum := by
  refine ro_fn Tryz.func16 ok_r21_Few (env_cons (s := RoF S_r21_FewPart) snd_r21_FewPart (env_cons (s := RoF S_r09_Few) snd_r09_Few (env_cons (s := RoF S_r13_Few) snd_r13_Few (env_cons (s := RoF S_r15_Few) snd_r15_Few (env_cons (s := RoF S_r16_Few) snd_r16_Few (env_cons (s := RoF S_r17_Few) snd_r17_Few (env_cons (s := RoF S_r18_Few) snd_r18_Few (env_cons (s := RoF S_r19_Few) snd_r19_Few (env_nil _))))))))) fun args objs p v e => ?_
  unfold S_r21_Few at e
  split at e
  · rename_i a0 a1 a2 a3 a4 a5 ty0 a6 ty1 a7 ty2 a8 a9 a10 ty3 a11 a12 a13 ty4 a14
    obtain rfl := castO_ty e
    replace e := castO_go e
    obtain rfl := castO_ty e
    replace e := castO_go e
    obtain rfl := castO_ty e
    replace e := castO_go e
    obtain rfl := castO_ty e
    replace e := castO_go e
    obtain rfl := castO_ty e
    replace e := castO_go e
    cases e
    refine ⟨rfl, fun hw ho hp => ?_⟩
    change List Int at a2
    change List Int at a3
    change List VEl at a4
    change List VPa at a14
    have hl1 : a4.length ≤ maxLen := (hw _ (List.mem_cons_self ..) (.imm YB a4) (by simp)).2
    have hl6 : a14.length ≤ maxLen := (hw _ (List.mem_cons_self ..) (.imm YC a14) (by simp)).2
    unfold maxLen at hl1 hl6
    clear hw ho
    repeat' (intro t ht; first | (cases t <;> first | (cases ht; done) | ((try simp only [bn_s] at ht); (try simp only [nd_s] at ht))) | (refine castG_go ht ?_; clear ht) | (refine ht ?_ ?_ <;> clear ht) | (refine ht.1 ?_ ?_ <;> clear ht) | (refine ht ?_; clear ht))
    all_goals first
      | (intro r h1 h2; clear h1; refine h2 ⟨[1, 3], Nat, (fun i => i ≤ a4.length ∧ (a4.take i).all len500E = true), fun i => [.ptr 0 0, .int .i64 i], fun _ => [.box [.int .i64 a0, .int .u32 a1, .imm (.int .u64) a2, .imm (.int .u8) a3, .imm YB a4, .imm Y1 a5, .imm Y2 a6, .imm Y3 a7, .imm Y4 a8, .imm Y5 a9, .imm Y7 a10, .imm Y8 a11, .int .i64 a12, .int .i64 a13, .imm YC a14]], fun i => a4.length - i, ⟨0, ⟨Nat.zero_le _, rfl⟩, rfl, rfl⟩, ?_⟩; clear h2)
      | skip
    rintro i ⟨hi, he⟩
    repeat' (intro t ht; first | (cases t <;> first | (cases ht; done) | ((try simp only [bn_s] at ht); (try simp only [nd_s] at ht); (try (exfalso; first | contradiction | omega)))) | (refine castG_go ht ?_; clear ht) | (refine ht ?_ ?_ <;> clear ht) | (refine ht.1 ?_ ?_ <;> clear ht) | (refine ht ?_; clear ht))
    all_goals (try generalize (Ty.dflt YB) = od at *)
    all_goals first
      | exact True.intro
      | ((try simp only [nd_s, bn_s, mm_s] at *); omega)
      | (have hf : len500E (a4.getD i od) = true := decide_eq_true (by omega)
         exact ⟨i + 1, ⟨by omega, allT_step (d := od) (by omega) he hf⟩, by dsimp only; omega, rfl, rfl⟩)
      | (have hf : len500E (a4.getD i od) = false := decide_eq_false (by omega)
         refine ⟨?_, rfl⟩; unfold fwMs; rw [all_miss (d := od) (show i < a4.length by omega) hf, Bool.false_and]; done)
      | (intro r h1 h2; clear h1; refine h2 ⟨[1, 4], Nat, (fun i => i ≤ a14.length ∧ (a14.take i).all fwPa = true), fun i => [.ptr 0 0, .int .i64 i], fun _ => [.box [.int .i64 a0, .int .u32 a1, .imm (.int .u64) a2, .imm (.int .u8) a3, .imm YB a4, .imm Y1 a5, .imm Y2 a6, .imm Y3 a7, .imm Y4 a8, .imm Y5 a9, .imm Y7 a10, .imm Y8 a11, .int .i64 a12, .int .i64 a13, .imm YC a14]], fun i => a14.length - i, ⟨0, ⟨Nat.zero_le _, rfl⟩, rfl, rfl⟩, ?_⟩; clear h2)
      | skip
    have h1 := allT_end (by omega) he
    rintro j ⟨hj, hje⟩
    repeat' (intro t ht; first | (cases t <;> first | (cases ht; done) | ((try simp only [bn_s] at ht); (try simp only [nd_s] at ht); (try (exfalso; first | contradiction | omega)))) | (refine castG_go ht ?_; clear ht) | (refine ht ?_ ?_ <;> clear ht) | (refine ht.1 ?_ ?_ <;> clear ht) | (refine ht ?_; clear ht))
    all_goals (try generalize (Ty.dflt YC) = od at *)
    all_goals first
      | exact True.intro
      | ((try simp only [nd_s, bn_s, mm_s] at *); omega)
      | (have hf : fwPa (a14.getD j od) = true := by assumption
         exact ⟨j + 1, ⟨by omega, allT_step (d := od) (by omega) hje hf⟩, by dsimp only; omega, rfl, rfl⟩)
      | (have hf : fwPa (a14.getD j od) = false := by assumption
         refine ⟨?_, rfl⟩; unfold fwMs; rw [h1, all_miss (d := od) (show j < a14.length by omega) hf, Bool.false_and, Bool.and_false]; done)
      | (have h6 := allT_end (by omega) hje
         refine ⟨congrArg AV.bool ?_, rfl⟩; unfold fwMs; rw [h1, h6, Bool.true_and, Bool.true_and]; dsimp only; first | (rw [decide_eq_false (show ¬ a2.length ≤ 60 by omega)]; simp; done) | (rw [decide_eq_false (show ¬ a3.length ≤ 3000 by omega)]; simp; done) | (rw [decide_eq_false (show ¬ a4.length ≤ 20 by omega)]; simp; done) | (rw [decide_eq_false (show ¬ a14.length ≤ 12 by omega)]; simp; done) | (simp_all; done) | (rw [decide_eq_true (show a2.length ≤ 60 by omega), decide_eq_true (show a3.length ≤ 3000 by omega), decide_eq_true (show a4.length ≤ 20 by omega), decide_eq_true (show a14.length ≤ 12 by omega)]; simp [cast_rfl, *]; done))
      | skip
  · cases e
end Go.Eng
namespace Go.Eng
open Go.Proofs
set_option linter.unusedVariables false
set_option linter.unusedSimpArgs false
set_option maxRecDepth 100000
set_option maxHeartbeats 1000000
def ir_r21_Part : IR :=
(.seq
(.keep [0, 1]
(.reg [oD 2 (.boxv (.t 0)),
oD 3 (.boxv (.t 1)),
oD 4 (.mov cF)]))
(.seq
(.seq
(.keep [2, 3]
(.reg [oA 7 0 2,
oL 8 7,
oA 9 0 3,
oL 10 9,
oC 11 17 [.t 8, .t 10],
oD 12 (.un .not (.t 11)),
oM 13 12,
oF 13 14 (.fieldAddr 1 (.t 2)),
oF 13 15 (.load none (.t 14)),
oF 13 16 (.len (.t 15)),
oF 13 17 (.fieldAddr 1 (.t 3)),
oF 13 18 (.load none (.t 17)),
oF 13 19 (.len (.t 18)),
oF 13 20 (.bin .neq (.t 16) (.t 19)),
oP 21 13 cT (.t 20),
oM 22 21,
oF 22 23 (.fieldAddr 6 (.t 2)),
oF 22 24 (.load none (.t 23)),
oF 22 25 (.len (.t 24)),
oF 22 26 (.fieldAddr 6 (.t 3)),
oF 22 27 (.load none (.t 26)),
oF 22 28 (.len (.t 27)),
oF 22 29 (.bin .neq (.t 25) (.t 28)),
oP 30 22 cT (.t 29),
oM 31 30,
oF 31 32 (.fieldAddr 9 (.t 2)),
oF 31 33 (.load none (.t 32)),
oF 31 34 (.fieldAddr 9 (.t 3)),
oF 31 35 (.load none (.t 34)),
oF 31 36 (.call false (.f 12) [(.t 33), (.t 35)]),
oF 31 37 (.un .not (.t 36)),
oP 38 31 cT (.t 37)]))
(.cond (.t 38)
(.seq
(.keep []
(.reg [oD 4 (.mov cF)]))
.ret)
.skip))
(.seq
(.seq
(.keep [2, 3]
(.reg [oD 5 (.mov (cI 0))]))
(.block 0
(.loop
(.seq
(.seq
(.keep [2, 3, 5]
(.reg [oM 39 5,
oA 40 1 2,
oL 41 40,
oE 42 41,
oB 43 .lss (.t 39) (.t 42)]))
(.cond (.t 43)
.skip
(.exit 0)))
(.seq
(.block 1
(.seq
(.keep [2, 3, 5]
(.regD [(oA 46 1 2, []),
(oL 47 46, []),
(oM 48 5, [0,0]),
(oI 49 1 47 48, []),
(oL 50 49, []),
(oA 51 1 3, [0,0,0,0,0]),
(oL 52 51, [1,0,0,0,0]),
(oM 53 5, [0,0,0,0,0,0,0]),
(oI 54 1 52 53, [3,0,0,0,0]),
(oL 55 54, [4,0,0,0,0]),
(oB 56 .neq (.t 50) (.t 55), [])]))
(.cond (.t 56)
(.seq
(.keep []
(.reg [oD 4 (.mov cF)]))
.ret)
.skip)))
(.keep [2, 3, 5]
(.reg [oM 44 5,
oB 45 .add (.t 44) (cI 1),
oM 5 45])))))))
(.seq
(.seq
(.keep [2, 3]
(.reg [oD 6 (.mov (cI 0))]))
(.block 2
(.loop
(.seq
(.seq
(.keep [2, 3, 6]
(.reg [oM 57 6,
oA 58 6 2,
oL 59 58,
oE 60 59,
oB 61 .lss (.t 57) (.t 60)]))
(.cond (.t 61)
.skip
(.exit 2)))
(.seq
(.block 3
(.seq
(.keep [2, 3, 6]
(.regD [(oA 64 6 2, []),
(oL 65 64, []),
(oM 66 6, [0,0]),
(oI 67 1 65 66, []),
(oL 68 67, []),
(oA 69 6 3, [0,0,0,0,0]),
(oL 70 69, [1,0,0,0,0]),
(oM 71 6, [0,0,0,0,0,0,0]),
(oI 72 1 70 71, [3,0,0,0,0]),
(oL 73 72, [4,0,0,0,0]),
(oC 74 17 [.t 68, .t 73], []),
(oD 75 (.un .not (.t 74)), [])]))
(.cond (.t 75)
(.seq
(.keep []
(.reg [oD 4 (.mov cF)]))
.ret)
.skip)))
(.keep [2, 3, 6]
(.reg [oM 62 6,
oB 63 .add (.t 62) (cI 1),
oM 6 63])))))))
(.seq
(.keep [2, 3]
(.reg [oA 76 2 2,
oL 77 76,
oA 78 2 3,
oL 79 78,
oC 80 71 [.t 77, .t 79],
oM 81 80,
oT 81 82 (.fieldAddr 3 (.t 2)),
oT 81 83 (.load none (.t 82)),
oT 81 84 (.fieldAddr 3 (.t 3)),
oT 81 85 (.load none (.t 84)),
oT 81 86 (.call false (.f 72) [(.t 83), (.t 85)]),
oP 87 81 (.t 86) cF,
oM 88 87,
oT 88 89 (.fieldAddr 4 (.t 2)),
oT 88 90 (.load none (.t 89)),
oT 88 91 (.fieldAddr 4 (.t 3)),
oT 88 92 (.load none (.t 91)),
oT 88 93 (.call false (.f 73) [(.t 90), (.t 92)]),
oP 94 88 (.t 93) cF,
oM 95 94,
oT 95 96 (.fieldAddr 5 (.t 2)),
oT 95 97 (.load none (.t 96)),
oT 95 98 (.fieldAddr 5 (.t 3)),
oT 95 99 (.load none (.t 98)),
oT 95 100 (.call false (.f 74) [(.t 97), (.t 99)]),
oP 101 95 (.t 100) cF,
oM 102 101,
oT 102 103 (.fieldAddr 7 (.t 2)),
oT 102 104 (.load none (.t 103)),
oT 102 105 (.fieldAddr 7 (.t 3)),
oT 102 106 (.load none (.t 105)),
oT 102 107 (.call false (.f 75) [(.t 104), (.t 106)]),
oP 108 102 (.t 107) cF,
oM 109 108,
oT 109 110 (.fieldAddr 8 (.t 2)),
oT 109 111 (.load none (.t 110)),
oT 109 112 (.fieldAddr 8 (.t 3)),
oT 109 113 (.load none (.t 112)),
oT 109 114 (.call false (.f 76) [(.t 111), (.t 113)]),
oP 115 109 (.t 114) cF,
oM 4 115]))
.ret)))))
def rd_r21_Part : List RD := [.tmp 4 true none]
theorem ok_r21_Part : fnOk Tryz.prog Tryz.f27 ir_r21_Part rd_r21_Part = true := by kernel_rfl
def S_r21_Part : List AV → List Obj → Option (Prop × AV)
  | [.agg [.imm (.int .u64) a0, .imm .str a1, .imm (.cons (.int .i64) (.cons (.int .i64) (.cons .bool (.cons (.int .u64) (.cons (.sl (.int .u8)) (.cons (.sl (.int .u8)) .nil)))))) a2, .imm ty0 a3, .imm ty1 a4, .imm (.cons (.int .i64) (.cons (.int .u64) (.cons (.int .u64) (.cons (.int .u64) (.cons (.sl (.int .u8)) .nil))))) a5, .imm (.sl (.int .u64)) a6, .imm ty2 a7, .imm ty3 a8, .imm (.int .u8) a9], .agg [.imm (.int .u64) b0, .imm .str b1, .imm (.cons (.int .i64) (.cons (.int .i64) (.cons .bool (.cons (.int .u64) (.cons (.sl (.int .u8)) (.cons (.sl (.int .u8)) .nil)))))) b2, .imm ty4 b3, .imm ty5 b4, .imm (.cons (.int .i64) (.cons (.int .u64) (.cons (.int .u64) (.cons (.int .u64) (.cons (.sl (.int .u8)) .nil))))) b5, .imm (.sl (.int .u64)) b6, .imm ty6 b7, .imm ty7 b8, .imm (.int .u8) b9]], [] => castO ty0 Y3 a3 fun a3 => castO ty1 Y4 a4 fun a4 => castO ty2 Y8 a7 fun a7 => castO ty3 YA a8 fun a8 => castO ty4 Y3 b3 fun b3 => castO ty5 Y4 b4 fun b4 => castO ty6 Y8 b7 fun b7 => castO ty7 YA b8 fun b8 => some ((True, .bool (decide (((a0, a1, a2, a3, a4, a5, a6, a7, a8, a9, ()) : VPa) = (b0, b1, b2, b3, b4, b5, b6, b7, b8, b9, ())))))
  | _, _ => none
theorem snd_r21_Part : SoundS Tryz.prog 27 (RoF S_r21_Part).sum := by
  refine ro_fn Tryz.func27 ok_r21_Part (env_cons (s := RoF S_r01_Nums) snd_r01_Nums (env_cons (s := RoF S_r01_Bytes) snd_r01_Bytes (env_cons (s := RoF S_r09_Same) snd_r09_Same (env_cons (s := RoF S_r15_Same) snd_r15_Same (env_cons (s := RoF S_r16_Same) snd_r16_Same (env_cons (s := RoF S_r17_Same) snd_r17_Same (env_cons (s := RoF S_r19_Same) snd_r19_Same (env_cons (s := RoF S_r20_Same) snd_r20_Same (env_nil _))))))))) fun args objs p v e => ?_
  unfold S_r21_Part at e
  split at e
  · rename_i a0 a1 a2 ty0 a3 ty1 a4 a5 a6 ty2 a7 ty3 a8 a9 b0 b1 b2 ty4 b3 ty5 b4 b5 b6 ty6 b7 ty7 b8 b9
    obtain rfl := castO_ty e
    replace e := castO_go e
    obtain rfl := castO_ty e
    replace e := castO_go e
    obtain rfl := castO_ty e
    replace e := castO_go e
    obtain rfl := castO_ty e
    replace e := castO_go e
    obtain rfl := castO_ty e
    replace e := castO_go e
    obtain rfl := castO_ty e
    replace e := castO_go e
    obtain rfl := castO_ty e
    replace e := castO_go e
    obtain rfl := castO_ty e
    replace e := castO_go e
    cases e
    refine ⟨rfl, fun hw ho hp => ?_⟩
    change List Int at a0
    change List Int at a9
    change List Int at b0
    change List Int at b9
    change List (List Int) at a1
    change List (List Int) at b1
    change List (List Int) at a6
    change List (List Int) at b6
    have hl1 : a1.length ≤ maxLen := (hw _ (List.mem_cons_self ..) (.imm .str a1) (by simp)).2
    have hl6 : a6.length ≤ maxLen := (hw _ (List.mem_cons_self ..) (.imm (.sl (.int .u64)) a6) (by simp)).2
    unfold maxLen at hl1 hl6
    clear hw ho
    have hno : ∀ h : ¬ (a0 = b0 ∧ a1 = b1 ∧ a2 = b2 ∧ a3 = b3 ∧ a4 = b4 ∧ a5 = b5 ∧ a6 = b6 ∧ a7 = b7 ∧ a8 = b8 ∧ a9 = b9), decide (((a0, a1, a2, a3, a4, a5, a6, a7, a8, a9, ()) : VPa) = (b0, b1, b2, b3, b4, b5, b6, b7, b8, b9, ())) = false := fun h => decide_eq_false fun e => h (by simpa only [Prod.mk.injEq, and_true] using e)
    repeat' (intro t ht; first | (cases t <;> first | (cases ht; done) | ((try simp only [bn_s] at ht); (try simp only [nd_s] at ht); (try (exfalso; first | contradiction | omega)))) | (refine castG_go ht ?_; clear ht) | (refine ht ?_ ?_ <;> clear ht) | (refine ht.1 ?_ ?_ <;> clear ht) | (refine ht ?_; clear ht))
    all_goals first
      | exact True.intro
      | (refine ⟨?_, rfl⟩; rw [hno fun k => by simp_all]; done)
      | (intro r h1 h2; clear h1; refine h2 ⟨[2, 3, 5], Nat, (fun i => i ≤ a1.length ∧ a1.take i = b1.take i), fun i => [.ptr 0 0, .ptr 1 0, .int .i64 i], fun _ => [.box [.imm (.int .u64) a0, .imm .str a1, .imm Y1 a2, .imm Y3 a3, .imm Y4 a4, .imm Y5 a5, .imm (.sl (.int .u64)) a6, .imm Y8 a7, .imm YA a8, .imm (.int .u8) a9], .box [.imm (.int .u64) b0, .imm .str b1, .imm Y1 b2, .imm Y3 b3, .imm Y4 b4, .imm Y5 b5, .imm (.sl (.int .u64)) b6, .imm Y8 b7, .imm YA b8, .imm (.int .u8) b9]], fun i => a1.length - i, ⟨0, ⟨Nat.zero_le _, rfl⟩, rfl, rfl⟩, ?_⟩; clear h2)
      | skip
    rintro i ⟨hi, he⟩
    have hl2 : a1.length = b1.length := by omega
    have hl3 : a6.length = b6.length := by omega
    repeat' (intro t ht; first | (cases t <;> first | (cases ht; done) | ((try simp only [bn_s] at ht); (try simp only [nd_s] at ht); (try (exfalso; first | contradiction | omega)))) | (refine castG_go ht ?_; clear ht) | (refine ht ?_ ?_ <;> clear ht) | (refine ht.1 ?_ ?_ <;> clear ht) | (refine ht ?_; clear ht))
    all_goals (try generalize (Ty.dflt .str) = od at *)
    all_goals first
      | exact True.intro
      | ((try simp only [nd_s, bn_s, mm_s] at *); omega)
      | (have hne : a1 ≠ b1 := tkNe (d := od) (i := i) (by assumption)
         refine ⟨?_, rfl⟩; rw [hno fun k => hne k.2.1]; done)
      | exact ⟨i + 1, ⟨by omega, tkStep he (by omega) hl2 (d := od) (by assumption)⟩, by (try simp only [nd_s, bn_s, mm_s] at *); omega, rfl, rfl⟩
      | (intro r h1 h2; clear h1; refine h2 ⟨[2, 3, 6], Nat, (fun i => i ≤ a6.length ∧ a6.take i = b6.take i), fun i => [.ptr 0 0, .ptr 1 0, .int .i64 i], fun _ => [.box [.imm (.int .u64) a0, .imm .str a1, .imm Y1 a2, .imm Y3 a3, .imm Y4 a4, .imm Y5 a5, .imm (.sl (.int .u64)) a6, .imm Y8 a7, .imm YA a8, .imm (.int .u8) a9], .box [.imm (.int .u64) b0, .imm .str b1, .imm Y1 b2, .imm Y3 b3, .imm Y4 b4, .imm Y5 b5, .imm (.sl (.int .u64)) b6, .imm Y8 b7, .imm YA b8, .imm (.int .u8) b9]], fun i => a6.length - i, ⟨0, ⟨Nat.zero_le _, rfl⟩, rfl, rfl⟩, ?_⟩; clear h2)
      | skip
    have e1 := tkAll he (by omega) hl2
    rintro j ⟨hj, he6⟩
    repeat' (intro t ht; first | (cases t <;> first | (cases ht; done) | ((try simp only [bn_s] at ht); (try simp only [nd_s] at ht); (try (exfalso; first | contradiction | omega)))) | (refine castG_go ht ?_; clear ht) | (refine ht ?_ ?_ <;> clear ht) | (refine ht.1 ?_ ?_ <;> clear ht) | (refine ht ?_; clear ht))
    all_goals (try generalize (Ty.dflt (.sl (.int .u64))) = od at *)
    all_goals first
      | exact True.intro
      | ((try simp only [nd_s, bn_s, mm_s] at *); omega)
      | (have hne : a6 ≠ b6 := tkNe (d := od) (i := j) (by assumption)
         refine ⟨?_, rfl⟩; rw [hno fun k => hne k.2.2.2.2.2.2.1]; done)
      | exact ⟨j + 1, ⟨by omega, tkStep he6 (by omega) hl3 (d := od) (by assumption)⟩, by (try simp only [nd_s, bn_s, mm_s] at *); omega, rfl, rfl⟩
      | (have e6 := tkAll he6 (by omega) hl3
         refine ⟨congrArg AV.bool ?_, rfl⟩; rw [Bool.eq_iff_iff]; simp_all [and_assoc]; done)
      | skip
  · cases e
end Go.Eng
namespace Go.Eng
open Go.Proofs
set_option linter.unusedVariables false
set_option linter.unusedSimpArgs false
set_option maxRecDepth 100000
set_option maxHeartbeats 1000000
theorem txB_len : ∀ (t : List (List Int)) (n : List Int), okTs t n = true → t.length = n.length → ((txB t n).length : Int) = n.sum
  | [], [], _, _ => by unfold txB; simp
  | [], _ :: _, _, h => by cases h
  | _ :: _, [], _, h => by cases h
  | t :: ts, n :: ns, h, hl => by
    unfold okTs at h
    simp only [Bool.and_eq_true] at h
    have h1 := txF_lt h.1
    have h2 := txB_len ts ns h.2 (by simpa using hl)
    unfold txB
    simp only [List.length_append, List.length_replicate, List.sum_cons]
    omega
theorem txB_step {t : List (List Int)} {i : Nat} (h : i < 5) (ht : t.length = 5) : txB (t.drop i) (zs.drop i) = t.getD i [] ++ (List.replicate (zs.getD i 0 - (t.getD i []).length).toNat 0 ++ txB (t.drop (i + 1)) (zs.drop (i + 1))) := by
  rw [drop_step (show i < t.length by omega) [], drop_step (show i < zs.length from h) 0]; rfl
theorem ptY_len {w : List Int} {x : Bool} {p : VPa} (h : gdP w x p = true) : (ptY w x p).length ≤ 6000 := by
  have h1 := putB_len w p.1
  unfold ptY
  cases x with
  | false => simp only [Bool.false_eq_true, if_false, List.append_nil]; omega
  | true =>
    unfold gdP at h
    simp only [Bool.and_eq_true, Bool.not_true, Bool.false_or, decide_eq_true_eq] at h
    have h2 := txB_len p.2.1 zs h.2.2 h.2.1
    rw [show zs.sum = 1056 by decide] at h2
    rw [if_pos rfl, List.length_append]; omega
theorem gdP_t {w : List Int} {p : VPa} (h1 : putK w p.1 = true) (h2 : p.2.1.length = 5) (h3 : okTs p.2.1 zs = true) : gdP w true p = true := by
  unfold gdP; rw [h1, h3, decide_eq_true h2]; rfl
theorem gdP_f {w : List Int} {p : VPa} (h1 : putK w p.1 = true) : gdP w false p = true := by unfold gdP; rw [h1]; rfl
theorem gdP_k {w : List Int} {x : Bool} {p : VPa} (h1 : putK w p.1 = false) : gdP w x p = false := by unfold gdP; rw [h1]; rfl
theorem gdP_5 {w : List Int} {p : VPa} (h2 : ¬ p.2.1.length = 5) : gdP w true p = false := by unfold gdP; rw [decide_eq_false h2]; simp
theorem gdP_o {w : List Int} {p : VPa} (h3 : okTs p.2.1 zs = false) : gdP w true p = false := by unfold gdP; rw [h3]; simp
theorem okP_g {w : List Int} {x : Bool} {p : VPa} (h : gdP w x p = false) : ¬ okP w x p = true := by unfold okP; rw [h]; simp
def ir_r27_Body : IR :=
(.seq
(.keep [0, 1, 2]
(.reg [oD 6 (.nilrow (.int .u8)),
oD 7 (.mov (cI 0))]))
(.seq
(.reg [oM 16 0,
oM 17 1,
oC 18 23 [.t 16, .t 17],
oD 8 (.box [.imm (.int .i64) [], .int .i64 0, .kb false]),
oS 3 8 18])
(.seq
(.seq
(.keep [2, 8]
(.reg [oA 19 1 8,
oL 20 19,
oB 21 .lss (.t 20) (cI 0),
oM 22 21,
oF 22 23 (.fieldAddr 1 (.t 8)),
oF 22 24 (.load none (.t 23)),
oF 22 25 (.bin .lss (.t 24) (cI 2)),
oF 22 26 (.mov (.t 25)),
oT 26 27 (.mov (.t 2)),
oT 26 28 (.len (.t 27)),
oT 26 29 (.fieldAddr 1 (.t 8)),
oT 26 30 (.load none (.t 29)),
oT 26 31 (.bin .neq (.t 28) (.t 30)),
oF 22 32 (.pick (.t 26) (.t 31) cF),
oP 33 22 cT (.t 32)]))
(.cond (.t 33)
(.seq
(.keep []
(.reg [oD 6 (.nilrow (.int .u8)),
oD 7 (.mov (cI 10001))]))
.ret)
.skip))
(.seq
(.keep [2, 8]
(.reg [oD 9 (.nilrow (.int .u8))]))
(.seq
(.seq
(.reg [oD 10 (.mov (cI 0))])
(.block 0
(.loop
(.seq
(.seq
(.keep [2, 8, 9, 10]
(.reg [oM 34 10,
oM 35 2,
oE 36 35,
oB 37 .lss (.t 34) (.t 36)]))
(.cond (.t 37)
.skip
(.exit 0)))
(.seq
(.block 1
(.seq
(.keep [2, 8, 9, 10]
(.regD [(oA 41 0 8, []),
(oL 42 41, []),
(oM 43 2, [0,0]),
(oM 44 10, [0,0,0]),
(oI 45 10 43 44, [2,0]),
(oA 46 0 45, [3,0]),
(oL 47 46, [4,0]),
(oC 48 24 [.t 42, .t 47], []),
(oM 40 48, []),
(oX 49 40 0, []),
(oX 50 40 1, [0]),
(oM 11 49, [0]),
(oM 12 50, [])]))
(.seq
(.keep [2, 8, 9, 10, 11, 12]
(.reg [oM 51 2,
oM 52 10,
oI 53 10 51 52,
oA 54 0 53,
oL 55 54,
oD 56 (.build [.imm (.int .u64) [], .imm .str [], .imm Y1 [], .imm Y3 [], .imm Y4 [], .imm Y5 [], .imm (.sl (.int .u64)) [], .imm Y8 [], .imm YA [], .imm (.int .u8) []] [(0, 1, (.t 55))]),
oD 13 (.box [.imm (.int .u64) [], .imm .str [], .imm Y1 [], .imm Y3 [], .imm Y4 [], .imm Y5 [], .imm (.sl (.int .u64)) [], .imm Y8 [], .imm YA [], .imm (.int .u8) []]),
oS 10 13 56]))
(.seq
(.seq
(.keep [2, 8, 9, 10, 11, 12, 13]
(.reg [oA 57 2 8,
oL 58 57]))
(.cond (.t 58)
(.seq
(.keep [2, 8, 9, 10, 11, 12, 13]
(.reg [oM 59 2,
oM 60 10,
oI 61 10 59 60,
oA 62 1 61,
oL 63 62,
oA 64 1 13,
oS 1 64 63]))
(.seq
(.keep [2, 8, 9, 10, 11, 12, 13]
(.reg [oM 65 12,
oM 66 65,
oT 66 67 (.mov (.t 2)),
oT 66 68 (.mov (.t 10)),
oT 66 69 (.indexSl 10 (.t 67) (.t 68)),
oT 66 70 (.fieldAddr 1 (.t 69)),
oT 66 71 (.load none (.t 70)),
oT 66 72 (.len (.t 71)),
oT 66 73 (.bin .eql (.t 72) (cI 5)),
oP 74 66 (.t 73) cF,
oM 12 74]))
(.seq
(.keep [2, 8, 9, 10, 11, 12, 13]
(.reg [oD 14 (.mov (cI 0))]))
(.block 2
(.loop
(.seq
(.seq
(.keep [2, 8, 9, 10, 11, 12, 13, 14]
(.reg [oM 75 14,
oB 76 .lss (.t 75) (cI 5),
oM 77 76,
oT 77 78 (.mov (.t 12)),
oP 79 77 (.t 78) cF]))
(.cond (.t 79)
.skip
(.exit 2)))
(.seq
(.block 3
(.seq
(.keep [2, 8, 9, 10, 11, 13, 14]
(.reg [oM 82 2,
oM 83 10,
oI 84 10 82 83,
oA 85 1 84,
oL 86 85,
oM 87 14,
oI 88 1 86 87,
oL 89 88,
oM 15 89]))
(.seq
(.keep [2, 8, 9, 10, 11, 13, 14, 15]
(.reg [oM 90 15,
oC 91 26 [],
oM 92 14,
oI 93 1 91 92,
oL 94 93,
oC 95 25 [.t 90, .t 94],
oM 12 95]))
(.seq
(.keep [2, 8, 9, 10, 11, 12, 13, 14, 15]
(.reg [oM 96 12]))
(.cond (.t 96)
(.keep [2, 8, 9, 10, 11, 12, 13, 14, 15]
(.reg [oM 97 11,
oM 98 15,
oD 99 (.appends (.t 97) (.t 98)),
oC 100 26 [],
oM 101 14,
oI 102 1 100 101,
oL 103 102,
oM 104 15,
oD 105 (.slen (.t 104)),
oB 106 .sub (.t 103) (.t 105),
oD 107 (.appendz (.int .u8) 1 (0 : Int) (.t 99) (.t 106)),
oM 11 107]))
.skip)))))
(.keep [2, 8, 9, 10, 11, 12, 13, 14]
(.reg [oM 80 14,
oB 81 .add (.t 80) (cI 1),
oM 14 81])))))))))
.skip))
(.seq
(.seq
(.keep [2, 8, 9, 10, 11, 12, 13]
(.regD [(oM 108 12, []),
(oD 109 (.un .not (.t 108)), []),
(oM 110 109, []),
(oF 110 111 (.load (some 10) (.t 13)), []),
(oF 110 112 (.mov (.t 2)), [0]),
(oF 110 113 (.mov (.t 10)), [0,0]),
(oF 110 114 (.indexSl 10 (.t 112) (.t 113)), [2]),
(oF 110 115 (.load (some 10) (.t 114)), [3]),
(oF 110 116 (.call false (.f 27) [(.t 111), (.t 115)]), []),
(oF 110 117 (.un .not (.t 116)), []),
(oP 118 110 cT (.t 117), [])]))
(.cond (.t 118)
(.seq
(.keep []
(.reg [oD 6 (.nilrow (.int .u8)),
oD 7 (.mov (cI 10001))]))
.ret)
.skip))
(.keep [2, 8, 9, 10, 11]
(.reg [oM 119 9,
oM 120 11,
oD 121 (.append (.int .u8) 1 (.t 119) (.t 120)),
oM 9 121])))))))
(.keep [2, 8, 9, 10]
(.reg [oM 38 10,
oB 39 .add (.t 38) (cI 1),
oM 10 39])))))))
(.seq
(.seq
(.keep [9]
(.reg [oM 122 9,
oE 123 122,
oB 124 .gtr (.t 123) (cI 65519)]))
(.cond (.t 124)
(.seq
(.reg [oD 6 (.nilrow (.int .u8)),
oD 7 (.mov (cI 10001))])
.ret)
.skip))
(.seq
(.reg [oM 125 9,
oM 6 125,
oD 7 (.mov (cI 0))])
.ret)))))))
def rd_r27_Body : List RD := [.tmp 6 true (some (.int .u8)), .tmp 7 true none]
theorem ok_r27_Body : fnOk Tryz.prog Tryz.f9 ir_r27_Body rd_r27_Body = true := by kernel_rfl
def S_r27_Body : List AV → List Obj → Option (Prop × AV)
  | [.bool rr, .int .i64 k, .imm ty0 ps], [] => castO ty0 YC ps fun ps => some ((ps.length ≤ 12, .tup [.imm (.int .u8) (rbR rr k ps).1, .int .i64 (rbR rr k ps).2]))
  | _, _ => none
theorem snd_r27_Body : SoundS Tryz.prog 9 (RoF S_r27_Body).sum := by
  refine ro_fn Tryz.func9 ok_r27_Body (env_cons (s := RoF S_r27_Of) snd_r27_Of (env_cons (s := RwF S_r01_Put_k) snd_r01_Put_k (env_cons (s := RoF S_r27_sizes) snd_r27_sizes (env_cons (s := RoF S_r27_text) snd_r27_text (env_cons (s := RoF S_r21_Part) snd_r21_Part (env_nil _)))))) fun args objs p v e => ?_
  unfold S_r27_Body at e
  split at e
  · rename_i rr k ty0 ps
    obtain rfl := castO_ty e
    replace e := castO_go e
    cases e
    refine ⟨rfl, fun hw ho hp => ?_⟩
    change List VPa at ps
    clear hw ho
    have hzs : zs.length = 5 := rfl
    have hno : (tM rr k < 0 ∨ (tM rr k < 2 ∧ ¬ (ps.length : Int) = tM rr k)) → rbR rr k ps = ([], 10001) := fun h => by unfold rbR; rw [if_pos h]
    have hgo : ¬ tM rr k < 0 → (tM rr k < 2 → (ps.length : Int) = tM rr k) → ((∀ l, rbS (tW rr k) (tX rr k) ps [] = some l → (65519 : Int) < l.length → rbR rr k ps = ([], 10001)) ∧ (∀ l, rbS (tW rr k) (tX rr k) ps [] = some l → ¬ (65519 : Int) < l.length → rbR rr k ps = (l, 0)) ∧ (rbS (tW rr k) (tX rr k) ps [] = none → rbR rr k ps = ([], 10001))) := fun h1 h2 => by
      have hc : ¬ (tM rr k < 0 ∨ (tM rr k < 2 ∧ ¬ (ps.length : Int) = tM rr k)) := fun h => h.elim h1 fun h => h.2 (h2 h.1)
      unfold rbR; rw [if_neg hc]
      exact ⟨fun l q c => by rw [q]; exact if_pos c, fun l q c => by rw [q]; exact if_neg c, fun q => by rw [q]⟩
    repeat' (intro t ht; first | (cases t <;> first | (cases ht; done) | ((try simp only [bn_s] at ht); (try simp only [nd_s] at ht); (try (exfalso; first | contradiction | omega)))) | (refine castG_go ht ?_; clear ht) | (refine ht ?_ ?_ <;> clear ht) | (refine ht.1 ?_ ?_ <;> clear ht) | (refine ht ?_; clear ht))
    all_goals first
      | exact True.intro
      | ((try simp only [nd_s, bn_s, mm_s] at *); omega)
      | (rw [hno (by first | (left; assumption) | (right; exact ⟨by assumption, by assumption⟩))]; exact ⟨rfl, rfl⟩)
      | skip
    all_goals obtain ⟨hg1, hg2, hg3⟩ := hgo (by assumption) (fun q => by first | assumption | exact absurd q (by assumption))
    all_goals (intro r h1 h2; clear h1; refine h2 ⟨[2, 8, 9, 10], Nat × List Int, (fun a => a.1 ≤ ps.length ∧ a.2.length ≤ 6000 * a.1 ∧ rbS (tW rr k) (tX rr k) ps [] = rbS (tW rr k) (tX rr k) (ps.drop a.1) a.2), fun a => [.imm YC ps, .ptr 0 0, .own 1, .int .i64 a.1], fun a => [.box [.imm (.int .i64) (tW rr k), .int .i64 (tM rr k), .bool (tX rr k)], .row false (.int .u8) a.2], fun a => ps.length - a.1, ⟨(0, []), ⟨Nat.zero_le _, by simp, rfl⟩, rfl, rfl⟩, ?_⟩; clear h2)
    all_goals rintro ⟨i, out⟩ ⟨hi, hol, he⟩
    all_goals dsimp only at hi hol he
    all_goals have hst := fun (h : i < ps.length) => he.trans (rbS_step (d := (Ty.dflt YC)) h)
    all_goals repeat' (intro t ht; first | (cases t <;> first | (cases ht; done) | ((try simp only [bn_s] at ht); (try simp only [nd_s] at ht); (try (exfalso; first | contradiction | omega)))) | (refine castG_go ht ?_; clear ht) | (refine ht ?_ ?_ <;> clear ht) | (refine ht.1 ?_ ?_ <;> clear ht) | (refine ht ?_; clear ht))
    all_goals first
      | exact True.intro
      | ((try simp only [nd_s, bn_s, mm_s] at *); omega)
      | (rw [List.drop_of_length_le (show ps.length ≤ i by omega)] at he
         first
           | (have q : rbR rr k ps = (out, 0) := hg2 out he (by assumption)
              rw [q]; exact ⟨rfl, rfl⟩)
           | (have q : rbR rr k ps = ([], 10001) := hg1 out he (by assumption)
              rw [q]; exact ⟨rfl, rfl⟩))
      | (have hx : tX rr k = false := by assumption
         have hs := hst (by omega)
         first
           | (have hk : putK (tW rr k) (ps.getD i (Ty.dflt YC)).1 = false := by assumption
              rw [if_neg (okP_g (gdP_k hk))] at hs
              rw [hg3 hs]; exact ⟨rfl, rfl⟩)
           | (have hk : putK (tW rr k) (ps.getD i (Ty.dflt YC)).1 = true := by assumption
              have hb := putB_len (tW rr k) (ps.getD i (Ty.dflt YC)).1
              have hy : ptY (tW rr k) (tX rr k) (ps.getD i (Ty.dflt YC)) = putB (tW rr k) (ps.getD i (Ty.dflt YC)).1 := by unfold ptY; rw [hx]; simp
              first
                | exact ⟨(show (out.length + (putB (tW rr k) (ps.getD i (Ty.dflt YC)).1).length) * 1 ≤ 140737488355328 by omega), (show out.length + (putB (tW rr k) (ps.getD i (Ty.dflt YC)).1).length ≤ 140737488355328 by omega)⟩
                | (have ho : ¬ okP (tW rr k) (tX rr k) (ps.getD i (Ty.dflt YC)) = true := by
                     unfold okP; rw [hx, gdP_f hk, Bool.true_and, decide_eq_true_eq]; assumption
                   rw [if_neg ho] at hs
                   rw [hg3 hs]; exact ⟨rfl, rfl⟩)
                | (have ho : okP (tW rr k) (tX rr k) (ps.getD i (Ty.dflt YC)) = true := by
                     unfold okP; rw [hx, gdP_f hk, Bool.true_and, decide_eq_true_eq]; assumption
                   rw [if_pos ho, hy] at hs
                   exact ⟨(i + 1, _), ⟨by dsimp only; omega, by dsimp only; rw [List.length_append]; omega, hs⟩, by dsimp only; omega, rfl, rfl⟩)))
      | (have hx : tX rr k = true := by assumption
         have hk : putK (tW rr k) (ps.getD i (Ty.dflt YC)).1 = true := by assumption
         have hb := putB_len (tW rr k) (ps.getD i (Ty.dflt YC)).1
         (intro r h1 h2; clear h1; refine h2 ⟨[2, 8, 9, 10, 11, 12, 13, 14], Nat × List Int × Bool, (fun a => a.1 ≤ 5 ∧ a.2.1.length ≤ 4096 + 256 * a.1 ∧ ((a.2.2 = true ∧ putK (tW rr k) (ps.getD i (Ty.dflt YC)).1 = true ∧ (ps.getD i (Ty.dflt YC)).2.1.length = 5 ∧ a.2.1 ++ txB ((ps.getD i (Ty.dflt YC)).2.1.drop a.1) (zs.drop a.1) = ptY (tW rr k) (tX rr k) (ps.getD i (Ty.dflt YC)) ∧ okTs ((ps.getD i (Ty.dflt YC)).2.1.drop a.1) (zs.drop a.1) = okTs (ps.getD i (Ty.dflt YC)).2.1 zs) ∨ (a.2.2 = false ∧ gdP (tW rr k) (tX rr k) (ps.getD i (Ty.dflt YC)) = false))), fun a => [.imm YC ps, .ptr 0 0, .own 1, .int .i64 i, .own 2, .bool a.2.2, .ptr 3 0, .int .i64 a.1], fun a => [.box [.imm (.int .i64) (tW rr k), .int .i64 (tM rr k), .bool (tX rr k)], .row false (.int .u8) out, .row false (.int .u8) a.2.1, .box [.imm (.int .u64) (ps.getD i (Ty.dflt YC)).1, .imm .str (ps.getD i (Ty.dflt YC)).2.1, .imm Y1 [], .imm Y3 [], .imm Y4 [], .imm Y5 [], .imm (.sl (.int .u64)) [], .imm Y8 [], .imm YA [], .imm (.int .u8) []]], fun a => 5 - a.1, ⟨(0, putB (tW rr k) (ps.getD i (Ty.dflt YC)).1, decide (((ps.getD i (Ty.dflt YC)).2.1.length : Int) = 5)), ⟨Nat.zero_le _, by dsimp only; omega, by
             by_cases h5 : ((ps.getD i (Ty.dflt YC)).2.1.length : Int) = 5
             · left; exact ⟨decide_eq_true h5, hk, by omega, by unfold ptY; rw [if_pos hx]; rfl, rfl⟩
             · right; exact ⟨decide_eq_false h5, by rw [hx]; exact gdP_5 (by omega)⟩⟩, rfl, rfl⟩, ?_⟩; clear h2))
      | (have hx : tX rr k = true := by assumption
         have hk : putK (tW rr k) (ps.getD i (Ty.dflt YC)).1 = false := by assumption
         have hb := putB_len (tW rr k) (ps.getD i (Ty.dflt YC)).1
         (intro r h1 h2; clear h1; refine h2 ⟨[2, 8, 9, 10, 11, 12, 13, 14], Nat × List Int × Bool, (fun a => a.1 ≤ 5 ∧ a.2.1.length ≤ 4096 + 256 * a.1 ∧ ((a.2.2 = true ∧ putK (tW rr k) (ps.getD i (Ty.dflt YC)).1 = true ∧ (ps.getD i (Ty.dflt YC)).2.1.length = 5 ∧ a.2.1 ++ txB ((ps.getD i (Ty.dflt YC)).2.1.drop a.1) (zs.drop a.1) = ptY (tW rr k) (tX rr k) (ps.getD i (Ty.dflt YC)) ∧ okTs ((ps.getD i (Ty.dflt YC)).2.1.drop a.1) (zs.drop a.1) = okTs (ps.getD i (Ty.dflt YC)).2.1 zs) ∨ (a.2.2 = false ∧ gdP (tW rr k) (tX rr k) (ps.getD i (Ty.dflt YC)) = false))), fun a => [.imm YC ps, .ptr 0 0, .own 1, .int .i64 i, .own 2, .bool a.2.2, .ptr 3 0, .int .i64 a.1], fun a => [.box [.imm (.int .i64) (tW rr k), .int .i64 (tM rr k), .bool (tX rr k)], .row false (.int .u8) out, .row false (.int .u8) a.2.1, .box [.imm (.int .u64) (ps.getD i (Ty.dflt YC)).1, .imm .str (ps.getD i (Ty.dflt YC)).2.1, .imm Y1 [], .imm Y3 [], .imm Y4 [], .imm Y5 [], .imm (.sl (.int .u64)) [], .imm Y8 [], .imm YA [], .imm (.int .u8) []]], fun a => 5 - a.1, ⟨(0, putB (tW rr k) (ps.getD i (Ty.dflt YC)).1, false), ⟨Nat.zero_le _, by dsimp only; omega, .inr ⟨rfl, gdP_k hk⟩⟩, rfl, rfl⟩, ?_⟩; clear h2))
      | skip
    all_goals clear hk
    all_goals rintro ⟨j, b, ok⟩ ⟨hj, hbl, hJ⟩
    all_goals dsimp only at hj hbl hJ
    all_goals rcases hJ with ⟨rfl, hk, h5, hb2, ho2⟩ | ⟨rfl, hbad⟩
    all_goals repeat' (intro t ht; first | (cases t <;> first | (cases ht; done) | ((try simp only [bn_s] at ht); (try simp only [nd_s] at ht); (try (exfalso; first | contradiction | omega)))) | (refine castG_go ht ?_; clear ht) | (refine ht ?_ ?_ <;> clear ht) | (refine ht.1 ?_ ?_ <;> clear ht) | (refine ht ?_; clear ht))
    all_goals first
      | exact True.intro
      | ((try simp only [nd_s, bn_s, mm_s] at *); omega)
      | (have hs := hst (by omega)
         rw [if_neg (okP_g (by assumption))] at hs
         rw [hg3 hs]; exact ⟨rfl, rfl⟩)
      | (have hj5 : ¬ j < 5 := by omega
         have hs := hst (by omega)
         rw [List.drop_of_length_le (show (ps.getD i (Ty.dflt YC)).2.1.length ≤ j by omega), List.drop_of_length_le (show zs.length ≤ j by omega)] at hb2 ho2
         have hb3 : b = ptY (tW rr k) (tX rr k) (ps.getD i (Ty.dflt YC)) := by rw [← hb2]; unfold txB; simp
         have hgd : gdP (tW rr k) (tX rr k) (ps.getD i (Ty.dflt YC)) = true := by rw [hx]; exact gdP_t hk h5 ho2.symm
         have hyl := ptY_len hgd
         rw [← hb3] at hyl
         first
           | exact ⟨(show (out.length + b.length) * 1 ≤ 140737488355328 by omega), (show out.length + b.length ≤ 140737488355328 by omega)⟩
           | (have ho : ¬ okP (tW rr k) (tX rr k) (ps.getD i (Ty.dflt YC)) = true := by
                unfold okP; rw [hgd, Bool.true_and, decide_eq_true_eq, hx]; assumption
              rw [if_neg ho] at hs
              rw [hg3 hs]; exact ⟨rfl, rfl⟩)
           | (have ho : okP (tW rr k) (tX rr k) (ps.getD i (Ty.dflt YC)) = true := by
                unfold okP; rw [hgd, Bool.true_and, decide_eq_true_eq, hx]; assumption
              rw [if_pos ho, ← hb3] at hs
              exact ⟨(i + 1, _), ⟨by dsimp only; omega, by dsimp only; rw [List.length_append]; omega, hs⟩, by dsimp only; omega, rfl, rfl⟩))
      | skip
    all_goals have hj5 : j < 5 := by omega
    all_goals have hzz := zs_sum hj5
    all_goals have h1 := okTs_step hj5 h5
    all_goals have h2 := txB_step hj5 h5
    all_goals first
           | (have ht0 : txF (zs.getD j 0) ((ps.getD i (Ty.dflt YC)).2.1.getD j []) = false := by assumption
              rw [ht0, Bool.false_and] at h1
              refine ⟨(j + 1, b, txF (zs.getD j 0) ((ps.getD i (Ty.dflt YC)).2.1.getD j [])), ⟨by dsimp only; omega, by dsimp only; omega, .inr ⟨ht0, ?_⟩⟩, by dsimp only; omega, ?_, ?_⟩
              · rw [hx]; exact gdP_o (ho2.symm.trans h1)
              · rfl
              · rfl)
           | (have ht0 : txF (zs.getD j 0) ((ps.getD i (Ty.dflt YC)).2.1.getD j []) = true := by assumption
              have hlt := txF_lt ht0
              rw [ht0, Bool.true_and] at h1
              first
                | exact (show b.length + ((ps.getD i (Ty.dflt YC)).2.1.getD j []).length ≤ 140737488355328 by omega)
                | exact (show IntKind.i64.min ≤ zs.getD j 0 - (((ps.getD i (Ty.dflt YC)).2.1.getD j []).length : Int) ∧ zs.getD j 0 - (((ps.getD i (Ty.dflt YC)).2.1.getD j []).length : Int) ≤ IntKind.i64.max from by simp only [mm_s]; omega)
                | exact (show 0 ≤ zs.getD j 0 - (((ps.getD i (Ty.dflt YC)).2.1.getD j []).length : Int) ∧ (((b ++ (ps.getD i (Ty.dflt YC)).2.1.getD j []).length : Int) + (zs.getD j 0 - (((ps.getD i (Ty.dflt YC)).2.1.getD j []).length : Int))) * ((1 : Nat) : Int) ≤ 140737488355328 ∧ ((b ++ (ps.getD i (Ty.dflt YC)).2.1.getD j []).length : Int) + (zs.getD j 0 - (((ps.getD i (Ty.dflt YC)).2.1.getD j []).length : Int)) ≤ 140737488355328 from by rw [List.length_append]; omega)
                | (rw [h2] at hb2
                   refine ⟨(j + 1, b ++ (ps.getD i (Ty.dflt YC)).2.1.getD j [] ++ List.replicate (zs.getD j 0 - (((ps.getD i (Ty.dflt YC)).2.1.getD j []).length : Int)).toNat 0, txF (zs.getD j 0) ((ps.getD i (Ty.dflt YC)).2.1.getD j [])), ⟨by dsimp only; omega, ?_, .inl ⟨ht0, hk, h5, ?_, h1.symm.trans ho2⟩⟩, by dsimp only; omega, rfl, rfl⟩
                   · dsimp only; rw [List.length_append, List.length_append, List.length_replicate]; omega
                   · dsimp only; rw [← hb2, List.append_assoc, List.append_assoc]))
           | skip
  · cases e
end Go.Eng
namespace Go.Eng
open Go.Proofs
set_option linter.unusedVariables false
set_option linter.unusedSimpArgs false
set_option maxRecDepth 100000
set_option maxHeartbeats 1000000
def ir_r21_Same : IR :=
(.seq
(.keep [0, 1]
(.reg [oD 2 (.boxv (.t 0)),
oD 3 (.boxv (.t 1)),
oD 4 (.mov cF)]))
(.seq
(.seq
(.keep [2, 3]
(.reg [oA 6 0 2,
oL 7 6,
oA 8 0 3,
oL 9 8,
oB 10 .neq (.t 7) (.t 9),
oM 11 10,
oF 11 12 (.fieldAddr 1 (.t 2)),
oF 11 13 (.load none (.t 12)),
oF 11 14 (.fieldAddr 1 (.t 3)),
oF 11 15 (.load none (.t 14)),
oF 11 16 (.bin .neq (.t 13) (.t 15)),
oP 17 11 cT (.t 16),
oM 18 17,
oF 18 19 (.fieldAddr 12 (.t 2)),
oF 18 20 (.load none (.t 19)),
oF 18 21 (.fieldAddr 12 (.t 3)),
oF 18 22 (.load none (.t 21)),
oF 18 23 (.bin .neq (.t 20) (.t 22)),
oP 24 18 cT (.t 23),
oM 25 24,
oF 25 26 (.fieldAddr 13 (.t 2)),
oF 25 27 (.load none (.t 26)),
oF 25 28 (.fieldAddr 13 (.t 3)),
oF 25 29 (.load none (.t 28)),
oF 25 30 (.bin .neq (.t 27) (.t 29)),
oP 31 25 cT (.t 30),
oM 32 31,
oF 32 33 (.fieldAddr 2 (.t 2)),
oF 32 34 (.load none (.t 33)),
oF 32 35 (.fieldAddr 2 (.t 3)),
oF 32 36 (.load none (.t 35)),
oF 32 37 (.call false (.f 17) [(.t 34), (.t 36)]),
oF 32 38 (.un .not (.t 37)),
oP 39 32 cT (.t 38),
oM 40 39,
oF 40 41 (.fieldAddr 3 (.t 2)),
oF 40 42 (.load none (.t 41)),
oF 40 43 (.fieldAddr 3 (.t 3)),
oF 40 44 (.load none (.t 43)),
oF 40 45 (.call false (.f 12) [(.t 42), (.t 44)]),
oF 40 46 (.un .not (.t 45)),
oP 47 40 cT (.t 46),
oM 48 47,
oF 48 49 (.fieldAddr 14 (.t 2)),
oF 48 50 (.load none (.t 49)),
oF 48 51 (.len (.t 50)),
oF 48 52 (.fieldAddr 14 (.t 3)),
oF 48 53 (.load none (.t 52)),
oF 48 54 (.len (.t 53)),
oF 48 55 (.bin .neq (.t 51) (.t 54)),
oP 56 48 cT (.t 55)]))
(.cond (.t 56)
(.seq
(.keep []
(.reg [oD 4 (.mov cF)]))
.ret)
.skip))
(.seq
(.seq
(.keep [2, 3]
(.reg [oD 5 (.mov (cI 0))]))
(.block 0
(.loop
(.seq
(.seq
(.keep [2, 3, 5]
(.reg [oM 57 5,
oA 58 14 2,
oL 59 58,
oE 60 59,
oB 61 .lss (.t 57) (.t 60)]))
(.cond (.t 61)
.skip
(.exit 0)))
(.seq
(.block 1
(.seq
(.keep [2, 3, 5]
(.regD [(oA 64 14 2, []),
(oL 65 64, []),
(oM 66 5, [0,0]),
(oI 67 10 65 66, []),
(oK 68 10 67, []),
(oA 69 14 3, [0,0,0,0,0]),
(oL 70 69, [1,0,0,0,0]),
(oM 71 5, [0,0,0,0,0,0,0]),
(oI 72 10 70 71, [3,0,0,0,0]),
(oK 73 10 72, [4,0,0,0,0]),
(oC 74 27 [.t 68, .t 73], []),
(oD 75 (.un .not (.t 74)), [])]))
(.cond (.t 75)
(.seq
(.keep []
(.reg [oD 4 (.mov cF)]))
.ret)
.skip)))
(.keep [2, 3, 5]
(.reg [oM 62 5,
oB 63 .add (.t 62) (cI 1),
oM 5 63])))))))
(.seq
(.keep [2, 3]
(.reg [oA 76 4 2,
oL 77 76,
oA 78 4 3,
oL 79 78,
oC 80 85 [.t 77, .t 79],
oM 81 80,
oT 81 82 (.fieldAddr 5 (.t 2)),
oT 81 83 (.load none (.t 82)),
oT 81 84 (.fieldAddr 5 (.t 3)),
oT 81 85 (.load none (.t 84)),
oT 81 86 (.call false (.f 71) [(.t 83), (.t 85)]),
oP 87 81 (.t 86) cF,
oM 88 87,
oT 88 89 (.fieldAddr 6 (.t 2)),
oT 88 90 (.load none (.t 89)),
oT 88 91 (.fieldAddr 6 (.t 3)),
oT 88 92 (.load none (.t 91)),
oT 88 93 (.call false (.f 86) [(.t 90), (.t 92)]),
oP 94 88 (.t 93) cF,
oM 95 94,
oT 95 96 (.fieldAddr 7 (.t 2)),
oT 95 97 (.load none (.t 96)),
oT 95 98 (.fieldAddr 7 (.t 3)),
oT 95 99 (.load none (.t 98)),
oT 95 100 (.call false (.f 72) [(.t 97), (.t 99)]),
oP 101 95 (.t 100) cF,
oM 102 101,
oT 102 103 (.fieldAddr 8 (.t 2)),
oT 102 104 (.load none (.t 103)),
oT 102 105 (.fieldAddr 8 (.t 3)),
oT 102 106 (.load none (.t 105)),
oT 102 107 (.call false (.f 73) [(.t 104), (.t 106)]),
oP 108 102 (.t 107) cF,
oM 109 108,
oT 109 110 (.fieldAddr 9 (.t 2)),
oT 109 111 (.load none (.t 110)),
oT 109 112 (.fieldAddr 9 (.t 3)),
oT 109 113 (.load none (.t 112)),
oT 109 114 (.call false (.f 74) [(.t 111), (.t 113)]),
oP 115 109 (.t 114) cF,
oM 116 115,
oT 116 117 (.fieldAddr 10 (.t 2)),
oT 116 118 (.load none (.t 117)),
oT 116 119 (.fieldAddr 10 (.t 3)),
oT 116 120 (.load none (.t 119)),
oT 116 121 (.call false (.f 87) [(.t 118), (.t 120)]),
oP 122 116 (.t 121) cF,
oM 123 122,
oT 123 124 (.fieldAddr 11 (.t 2)),
oT 123 125 (.load none (.t 124)),
oT 123 126 (.fieldAddr 11 (.t 3)),
oT 123 127 (.load none (.t 126)),
oT 123 128 (.call false (.f 75) [(.t 125), (.t 127)]),
oP 129 123 (.t 128) cF,
oM 4 129]))
.ret))))
def rd_r21_Same : List RD := [.tmp 4 true none]
theorem ok_r21_Same : fnOk Tryz.prog Tryz.f36 ir_r21_Same rd_r21_Same = true := by kernel_rfl
def S_r21_Same : List AV → List Obj → Option (Prop × AV)
  | [.agg [.int .i64 a0, .int .u32 a1, .imm (.int .u64) a2, .imm (.int .u8) a3, .imm (.cons (.int .i64) (.cons (.sl (.int .u8)) .nil)) a4, .imm (.cons (.int .i64) (.cons (.int .i64) (.cons .bool (.cons (.int .u64) (.cons (.sl (.int .u8)) (.cons (.sl (.int .u8)) .nil)))))) a5, .imm ty0 a6, .imm ty1 a7, .imm ty2 a8, .imm (.cons (.int .i64) (.cons (.int .u64) (.cons (.int .u64) (.cons (.int .u64) (.cons (.sl (.int .u8)) .nil))))) a9, .imm (.cons (.int .u64) (.cons (.int .u64) (.cons (.sl (.cons (.int .i64) (.cons (.int .u64) (.cons (.sl (.int .u8)) .nil)))) .nil))) a10, .imm ty3 a11, .int .i64 a12, .int .i64 a13, .imm ty4 a14], .agg [.int .i64 b0, .int .u32 b1, .imm (.int .u64) b2, .imm (.int .u8) b3, .imm (.cons (.int .i64) (.cons (.sl (.int .u8)) .nil)) b4, .imm (.cons (.int .i64) (.cons (.int .i64) (.cons .bool (.cons (.int .u64) (.cons (.sl (.int .u8)) (.cons (.sl (.int .u8)) .nil)))))) b5, .imm ty5 b6, .imm ty6 b7, .imm ty7 b8, .imm (.cons (.int .i64) (.cons (.int .u64) (.cons (.int .u64) (.cons (.int .u64) (.cons (.sl (.int .u8)) .nil))))) b9, .imm (.cons (.int .u64) (.cons (.int .u64) (.cons (.sl (.cons (.int .i64) (.cons (.int .u64) (.cons (.sl (.int .u8)) .nil)))) .nil))) b10, .imm ty8 b11, .int .i64 b12, .int .i64 b13, .imm ty9 b14]], [] => castO ty0 Y2 a6 fun a6 => castO ty1 Y3 a7 fun a7 => castO ty2 Y4 a8 fun a8 => castO ty3 Y8 a11 fun a11 => castO ty4 YC a14 fun a14 => castO ty5 Y2 b6 fun b6 => castO ty6 Y3 b7 fun b7 => castO ty7 Y4 b8 fun b8 => castO ty8 Y8 b11 fun b11 => castO ty9 YC b14 fun b14 => some ((True, .bool (decide (((a0, a1, a2, a3, a4, a5, a6, a7, a8, a9, a10, a11, a12, a13, a14, ()) : VMs) = (b0, b1, b2, b3, b4, b5, b6, b7, b8, b9, b10, b11, b12, b13, b14, ())))))
  | _, _ => none
theorem snd_r21_Same : SoundS Tryz.prog 36 (RoF S_r21_Same).sum := by
  refine ro_fn Tryz.func36 ok_r21_Same (env_cons (s := RoF S_r01_Nums) snd_r01_Nums (env_cons (s := RoF S_r01_Bytes) snd_r01_Bytes (env_cons (s := RoF S_r21_Part) snd_r21_Part (env_cons (s := RoF S_r21_elems) snd_r21_elems (env_cons (s := RoF S_r09_Same) snd_r09_Same (env_cons (s := RoF S_r13_Same) snd_r13_Same (env_cons (s := RoF S_r15_Same) snd_r15_Same (env_cons (s := RoF S_r16_Same) snd_r16_Same (env_cons (s := RoF S_r17_Same) snd_r17_Same (env_cons (s := RoF S_r18_Same) snd_r18_Same (env_cons (s := RoF S_r19_Same) snd_r19_Same (env_nil _)))))))))))) fun args objs p v e => ?_
  unfold S_r21_Same at e
  split at e
  · rename_i a0 a1 a2 a3 a4 a5 ty0 a6 ty1 a7 ty2 a8 a9 a10 ty3 a11 a12 a13 ty4 a14 b0 b1 b2 b3 b4 b5 ty5 b6 ty6 b7 ty7 b8 b9 b10 ty8 b11 b12 b13 ty9 b14
    obtain rfl := castO_ty e
    replace e := castO_go e
    obtain rfl := castO_ty e
    replace e := castO_go e
    obtain rfl := castO_ty e
    replace e := castO_go e
    obtain rfl := castO_ty e
    replace e := castO_go e
    obtain rfl := castO_ty e
    replace e := castO_go e
    obtain rfl := castO_ty e
    replace e := castO_go e
    obtain rfl := castO_ty e
    replace e := castO_go e
    obtain rfl := castO_ty e
    replace e := castO_go e
    obtain rfl := castO_ty e
    replace e := castO_go e
    obtain rfl := castO_ty e
    replace e := castO_go e
    cases e
    refine ⟨rfl, fun hw ho hp => ?_⟩
    change List Int at a2
    change List Int at a3
    change List Int at b2
    change List Int at b3
    change List VPa at a14
    change List VPa at b14
    have hl1 : a14.length ≤ maxLen := (hw _ (List.mem_cons_self ..) (.imm YC a14) (by simp)).2
    unfold maxLen at hl1
    clear hw ho
    have hno : ∀ h : ¬ (a0 = b0 ∧ a1 = b1 ∧ a2 = b2 ∧ a3 = b3 ∧ a4 = b4 ∧ a5 = b5 ∧ a6 = b6 ∧ a7 = b7 ∧ a8 = b8 ∧ a9 = b9 ∧ a10 = b10 ∧ a11 = b11 ∧ a12 = b12 ∧ a13 = b13 ∧ a14 = b14), decide (((a0, a1, a2, a3, a4, a5, a6, a7, a8, a9, a10, a11, a12, a13, a14, ()) : VMs) = (b0, b1, b2, b3, b4, b5, b6, b7, b8, b9, b10, b11, b12, b13, b14, ())) = false := fun h => decide_eq_false fun e => h (by simpa only [Prod.mk.injEq, and_true] using e)
    repeat' (intro t ht; first | (cases t <;> first | (cases ht; done) | ((try simp only [bn_s] at ht); (try simp only [nd_s] at ht); (try (exfalso; first | contradiction | omega)))) | (refine castG_go ht ?_; clear ht) | (refine ht ?_ ?_ <;> clear ht) | (refine ht.1 ?_ ?_ <;> clear ht) | (refine ht ?_; clear ht))
    all_goals first
      | exact True.intro
      | (refine ⟨?_, rfl⟩; rw [hno fun k => by simp_all]; done)
      | (intro r h1 h2; clear h1; refine h2 ⟨[2, 3, 5], Nat, (fun i => i ≤ a14.length ∧ a14.take i = b14.take i), fun i => [.ptr 0 0, .ptr 1 0, .int .i64 i], fun _ => [.box [.int .i64 a0, .int .u32 a1, .imm (.int .u64) a2, .imm (.int .u8) a3, .imm YB a4, .imm Y1 a5, .imm Y2 a6, .imm Y3 a7, .imm Y4 a8, .imm Y5 a9, .imm Y7 a10, .imm Y8 a11, .int .i64 a12, .int .i64 a13, .imm YC a14], .box [.int .i64 b0, .int .u32 b1, .imm (.int .u64) b2, .imm (.int .u8) b3, .imm YB b4, .imm Y1 b5, .imm Y2 b6, .imm Y3 b7, .imm Y4 b8, .imm Y5 b9, .imm Y7 b10, .imm Y8 b11, .int .i64 b12, .int .i64 b13, .imm YC b14]], fun i => a14.length - i, ⟨0, ⟨Nat.zero_le _, rfl⟩, rfl, rfl⟩, ?_⟩; clear h2)
      | skip
    rintro i ⟨hi, he⟩
    have hl2 : a14.length = b14.length := by omega
    repeat' (intro t ht; first | (cases t <;> first | (cases ht; done) | ((try simp only [bn_s] at ht); (try simp only [nd_s] at ht); (try (exfalso; first | contradiction | omega)))) | (refine castG_go ht ?_; clear ht) | (refine ht ?_ ?_ <;> clear ht) | (refine ht.1 ?_ ?_ <;> clear ht) | (refine ht ?_; clear ht))
    all_goals (try generalize (Ty.dflt YC) = od at *)
    all_goals first
      | exact True.intro
      | ((try simp only [nd_s, bn_s, mm_s] at *); omega)
      | (have hne : a14 ≠ b14 := tkNe (d := od) (i := i) (by assumption)
         refine ⟨?_, rfl⟩; rw [hno fun k => hne k.2.2.2.2.2.2.2.2.2.2.2.2.2.2]; done)
      | exact ⟨i + 1, ⟨by omega, tkStep he (by omega) hl2 (d := od) (by assumption)⟩, by (try simp only [nd_s, bn_s, mm_s] at *); omega, rfl, rfl⟩
      | (have e6 := tkAll he (by omega) hl2
         refine ⟨congrArg AV.bool ?_, rfl⟩; rw [Bool.eq_iff_iff]; simp_all [and_assoc]; done)
      | skip
  · cases e
end Go.Eng
namespace Go.Eng
open Go.Proofs
set_option linter.unusedVariables false
set_option linter.unusedSimpArgs false
set_option maxRecDepth 100000
set_option maxHeartbeats 1000000
def fewPs (l : List VPa) : Bool := l.all fwPa && decide (l.length ≤ 12)
def ir_l27_few : IR :=
(.seq
(.keep [0]
(.reg [oD 2 (.mov cF)]))
(.seq
(.reg [oM 3 0,
oD 4 (.build [.int .i64 0, .int .u32 0, .imm (.int .u64) [], .imm (.int .u8) [], .imm YB [], .imm Y1 [], .imm Y2 [], .imm Y3 [], .imm Y4 [], .imm Y5 [], .imm Y7 [], .imm Y8 [], .int .i64 0, .int .i64 0, .imm YC []] [(14, 1, (.t 3))]),
oC 5 16 [.t 4],
oM 2 5])
.ret))
def rd_l27_few : List RD := [.tmp 2 true none]
theorem ok_l27_few : fnOk Tryz.prog Tryz.f6 ir_l27_few rd_l27_few = true := by kernel_rfl
def S_l27_few : List AV → List Obj → Option (Prop × AV)
  | [.imm ty0 l], [] => castO ty0 YC l fun l => some ((True, .bool (fewPs l)))
  | _, _ => none
theorem snd_l27_few : SoundS Tryz.prog 6 (RoF S_l27_few).sum := by
  refine ro_fn Tryz.func6 ok_l27_few (env_cons (s := RoF S_r21_Few) snd_r21_Few (env_nil _)) fun args objs p v e => ?_
  unfold S_l27_few at e
  split at e
  · rename_i ty0 l
    obtain rfl := castO_ty e
    replace e := castO_go e
    cases e
    refine ⟨rfl, fun hw ho hp => ?_⟩
    change List VPa at l
    clear hw ho
    repeat' (intro t ht; first | (cases t <;> first | (cases ht; done) | ((try simp only [bn_s] at ht); (try simp only [nd_s] at ht); (try (exfalso; first | contradiction | omega)))) | (refine castG_go ht ?_; clear ht) | (refine ht ?_ ?_ <;> clear ht) | (refine ht.1 ?_ ?_ <;> clear ht) | (refine ht ?_; clear ht))
    all_goals first
      | exact True.intro
      | (refine ⟨congrArg AV.bool ?_, rfl⟩; unfold fewPs fwMs; simp [fewO, fewL, fewVIn, fewB, fewVBd, fewVQu, fewP]; done)
      | trace_state
  · cases e
def ir_l27_same : IR :=
(.seq
(.keep [0, 1]
(.reg [oD 4 (.mov cF)]))
(.seq
(.keep [0, 1]
(.reg [oM 5 0,
oD 6 (.build [.int .i64 0, .int .u32 0, .imm (.int .u64) [], .imm (.int .u8) [], .imm YB [], .imm Y1 [], .imm Y2 [], .imm Y3 [], .imm Y4 [], .imm Y5 [], .imm Y7 [], .imm Y8 [], .int .i64 0, .int .i64 0, .imm YC []] [(14, 1, (.t 5))]),
oM 7 1,
oD 8 (.build [.int .i64 0, .int .u32 0, .imm (.int .u64) [], .imm (.int .u8) [], .imm YB [], .imm Y1 [], .imm Y2 [], .imm Y3 [], .imm Y4 [], .imm Y5 [], .imm Y7 [], .imm Y8 [], .int .i64 0, .int .i64 0, .imm YC []] [(14, 1, (.t 7))]),
oC 9 36 [.t 6, .t 8],
oM 4 9]))
.ret))
def rd_l27_same : List RD := [.tmp 4 true none]
theorem ok_l27_same : fnOk Tryz.prog Tryz.f15 ir_l27_same rd_l27_same = true := by kernel_rfl
def S_l27_same : List AV → List Obj → Option (Prop × AV)
  | [.imm ty0 a, .imm ty1 b], [] => castO ty0 YC a fun a => castO ty1 YC b fun b => some ((True, .bool (decide ((a : List VPa) = b))))
  | _, _ => none
theorem snd_l27_same : SoundS Tryz.prog 15 (RoF S_l27_same).sum := by
  refine ro_fn Tryz.func15 ok_l27_same (env_cons (s := RoF S_r21_Same) snd_r21_Same (env_nil _)) fun args objs p v e => ?_
  unfold S_l27_same at e
  split at e
  · rename_i ty0 a ty1 b
    obtain rfl := castO_ty e
    replace e := castO_go e
    obtain rfl := castO_ty e
    replace e := castO_go e
    cases e
    refine ⟨rfl, fun hw ho hp => ?_⟩
    clear hw ho
    repeat' (intro t ht; first | (cases t <;> first | (cases ht; done) | ((try simp only [bn_s] at ht); (try simp only [nd_s] at ht); (try (exfalso; first | contradiction | omega)))) | (refine castG_go ht ?_; clear ht) | (refine ht ?_ ?_ <;> clear ht) | (refine ht.1 ?_ ?_ <;> clear ht) | (refine ht ?_; clear ht))
    all_goals first
      | exact True.intro
      | (refine ⟨congrArg AV.bool ?_, rfl⟩; rw [Bool.eq_iff_iff]; simp only [decide_eq_true_eq, Prod.mk.injEq, true_and, and_true]; done)
      | trace_state
  · cases e
end Go.Eng
