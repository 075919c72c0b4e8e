/- Parts of the proof: A9, H1, H2, H3, H4, Z1, F6, Z3, Z4, Z2, H5, H6, K1, H7, K3, K4, K5, K6, K7. No condition. -/
import Derived.Test.YtcgkajpmcbnmkaaGreatDoorProg
import Derived.Test.YtcgkajpmcbnmkaaGreatDoorWA10
import Derived.KernelRfl
import Derived.Test.YtcgkajpmcbnmkaaGreatDoorWA15
import Derived.Test.YtcgkajpmcbnmkaaGreatDoorWA12
namespace Go.Eng
open Go.Proofs
set_option linter.unusedVariables false
set_option linter.unusedSimpArgs false
set_option maxRecDepth 100000
set_option maxHeartbeats 1000000
def ir_r12_Few : IR :=
(.seq
(.keep [0]
(.reg [oD 1 (.boxv (.t 0)),
oD 2 (.mov cF)]))
(.seq
(.keep [1]
(.reg [oA 3 3 1,
oK 4 6 3,
oC 5 89 [.t 4],
oM 6 5,
oT 6 7 (.fieldAddr 9 (.t 1)),
oT 6 8 (.load none (.t 7)),
oT 6 9 (.len (.t 8)),
oT 6 10 (.bin .leq (.t 9) (cI 500)),
oP 11 6 (.t 10) cF,
oM 2 11]))
.ret))
def rd_r12_Few : List RD := [.tmp 2 true none]
theorem ok_r12_Few : fnOk Tryz.prog Tryz.f90 ir_r12_Few rd_r12_Few = true := by kernel_rfl
def S_r12_Few : List AV → List Obj → Option (Prop × AV)
  | [.agg [.int .i64 q, .int .u64 a, .int .u64 b, .int .i64 c, .int .i64 f, .bool h, .int .u64 x, .imm (.int .u8) v, .imm (.int .u8) m, .imm (.int .u8) d]], [] => some ((True, .bool (decide (v.length ≤ 300) && decide (m.length ≤ 300) && decide (d.length ≤ 500))))
  | _, _ => none
theorem snd_r12_Few : SoundS Tryz.prog 90 (RoF S_r12_Few).sum := by
  refine ro_fn Tryz.func90 ok_r12_Few (env_cons (s := RoF S_r08_Few) snd_r08_Few (env_nil _)) fun args objs p v e => ?_
  unfold S_r12_Few at e
  split at e
  · rename_i q a b c f h x v m d
    cases e
    refine ⟨rfl, fun hw ho hp => ?_⟩
    change List Int at v
    change List Int at m
    change List Int at d
    clear hw ho
    repeat' (intro t ht; first | (cases t <;> first | (cases ht; done) | ((try simp only [bn_s] at ht); (try simp only [nd_s] at ht); (try (exfalso; first | contradiction | omega)))) | (refine castG_go ht ?_; clear ht) | (refine ht ?_ ?_ <;> clear ht) | (refine ht.1 ?_ ?_ <;> clear ht) | (refine ht ?_; clear ht))
    all_goals first
      | exact True.intro
      | (refine ⟨congrArg AV.bool ?_, rfl⟩; simp_all; done)
      | (refine ⟨congrArg AV.bool ?_, rfl⟩; simp_all; omega)
      | trace_state
  · cases e
def ir_r12_Same : IR :=
(.seq
(.keep [0, 1]
(.reg [oD 2 (.boxv (.t 0)),
oD 3 (.boxv (.t 1)),
oD 4 (.mov cF)]))
(.seq
(.keep [2, 3]
(.reg [oA 5 0 2,
oL 6 5,
oA 7 0 3,
oL 8 7,
oB 9 .eql (.t 6) (.t 8),
oM 10 9,
oT 10 11 (.fieldAddr 1 (.t 2)),
oT 10 12 (.load none (.t 11)),
oT 10 13 (.fieldAddr 1 (.t 3)),
oT 10 14 (.load none (.t 13)),
oT 10 15 (.bin .eql (.t 12) (.t 14)),
oP 16 10 (.t 15) cF,
oM 17 16,
oT 17 18 (.fieldAddr 2 (.t 2)),
oT 17 19 (.load none (.t 18)),
oT 17 20 (.fieldAddr 2 (.t 3)),
oT 17 21 (.load none (.t 20)),
oT 17 22 (.bin .eql (.t 19) (.t 21)),
oP 23 17 (.t 22) cF,
oM 24 23,
oT 24 25 (.fieldAddr 3 (.t 2)),
oT 24 26 (.load (some 6) (.t 25)),
oT 24 27 (.fieldAddr 3 (.t 3)),
oT 24 28 (.load (some 6) (.t 27)),
oT 24 29 (.call false (.f 114) [(.t 26), (.t 28)]),
oP 30 24 (.t 29) cF,
oM 31 30,
oT 31 32 (.fieldAddr 9 (.t 2)),
oT 31 33 (.load none (.t 32)),
oT 31 34 (.fieldAddr 9 (.t 3)),
oT 31 35 (.load none (.t 34)),
oT 31 36 (.call false (.f 12) [(.t 33), (.t 35)]),
oP 37 31 (.t 36) cF,
oM 4 37]))
.ret))
def rd_r12_Same : List RD := [.tmp 4 true none]
theorem ok_r12_Same : fnOk Tryz.prog Tryz.f127 ir_r12_Same rd_r12_Same = true := by kernel_rfl
def S_r12_Same : List AV → List Obj → Option (Prop × AV)
  | [.agg [.int .i64 q, .int .u64 a, .int .u64 b, .int .i64 c, .int .i64 f, .bool h, .int .u64 x, .imm (.int .u8) v, .imm (.int .u8) m, .imm (.int .u8) d], .agg [.int .i64 q', .int .u64 a', .int .u64 b', .int .i64 c', .int .i64 f', .bool h', .int .u64 x', .imm (.int .u8) v', .imm (.int .u8) m', .imm (.int .u8) d']], [] => some ((True, .bool (sameA q a b c f h x v m d q' a' b' c' f' h' x' v' m' d')))
  | _, _ => none
theorem snd_r12_Same : SoundS Tryz.prog 127 (RoF S_r12_Same).sum := by
  refine ro_fn Tryz.func127 ok_r12_Same (env_cons (s := RoF S_r08_Same) snd_r08_Same (env_cons (s := RoF S_r01_Bytes) snd_r01_Bytes (env_nil _))) fun args objs p v e => ?_
  unfold S_r12_Same at e
  split at e
  · rename_i q a b c f h x v m d q' a' b' c' f' h' x' v' m' d'
    cases e
    refine ⟨rfl, fun hw ho hp => ?_⟩
    change List Int at v
    change List Int at m
    change List Int at d
    change List Int at v'
    change List Int at m'
    change List Int at d'
    clear hw ho
    repeat' (intro t ht; first | (cases t <;> first | (cases ht; done) | ((try simp only [bn_s] at ht); (try simp only [nd_s] at ht); (try (exfalso; first | contradiction | omega)))) | (refine castG_go ht ?_; clear ht) | (refine ht ?_ ?_ <;> clear ht) | (refine ht.1 ?_ ?_ <;> clear ht) | (refine ht ?_; clear ht))
    all_goals first
      | exact True.intro
      | (refine ⟨congrArg AV.bool ?_, rfl⟩; unfold sameA; simp_all; done)
      | trace_state
  · cases e
end Go.Eng
namespace Go.Eng
open Go.Proofs
set_option linter.unusedVariables false
set_option linter.unusedSimpArgs false
set_option maxRecDepth 100000
set_option maxHeartbeats 1000000
abbrev AC := Int × Int × Int × OV × List Int × Unit
instance : DecidableEq (OV × List Int × Unit) := inferInstance
instance : DecidableEq (Int × OV × List Int × Unit) := inferInstance
instance : DecidableEq AC := inferInstance
def lenA (a : AC) : Prop := a.2.2.2.1.2.2.2.2.1.length ≤ 100000 ∧ a.2.2.2.1.2.2.2.2.2.1.length ≤ 100000 ∧ a.2.2.2.2.1.length ≤ 100000
structure okL (l : List AC) : Prop where
  a : ∀ o ∈ l, lenA o
  n : l.length ≤ 1000000
def fwA (a : AC) : Bool := decide (a.2.2.2.1.2.2.2.2.1.length ≤ 300) && decide (a.2.2.2.1.2.2.2.2.2.1.length ≤ 300) && decide (a.2.2.2.2.1.length ≤ 500)
theorem fwA_t {a : AC} (h : (a.2.2.2.1.2.2.2.2.1.length ≤ 300 ∧ a.2.2.2.1.2.2.2.2.2.1.length ≤ 300) ∧ a.2.2.2.2.1.length ≤ 500) : fwA a = true := by unfold fwA; simp [h.1.1, h.1.2, h.2]
theorem fwA_f {a : AC} (h : (¬ a.2.2.2.1.2.2.2.2.1.length ≤ 300 ∨ ¬ a.2.2.2.1.2.2.2.2.2.1.length ≤ 300) ∨ ¬ a.2.2.2.2.1.length ≤ 500) : fwA a = false := by unfold fwA; rcases h with (h | h) | h <;> simp [h]
def fewL (l : List AC) : Bool := l.all fwA && decide (l.length ≤ 80)
def ir_r13_Few : IR :=
(.seq
(.keep [0]
(.reg [oD 2 (.mov cF)]))
(.seq
(.seq
(.reg [oD 3 (.mov (cI 0))])
(.block 0
(.loop
(.seq
(.seq
(.keep [0, 3]
(.reg [oM 4 3,
oM 5 0,
oE 6 5,
oB 7 .lss (.t 4) (.t 6)]))
(.cond (.t 7)
.skip
(.exit 0)))
(.seq
(.block 1
(.seq
(.keep [0, 3]
(.reg [oM 10 0,
oM 11 3,
oI 12 10 10 11,
oK 13 10 12,
oC 14 90 [.t 13],
oD 15 (.un .not (.t 14))]))
(.cond (.t 15)
(.seq
(.keep []
(.reg [oD 2 (.mov cF)]))
.ret)
.skip)))
(.keep [0, 3]
(.reg [oM 8 3,
oB 9 .add (.t 8) (cI 1),
oM 3 9])))))))
(.seq
(.keep [0]
(.reg [oM 16 0,
oE 17 16,
oB 18 .leq (.t 17) (cI 80),
oM 2 18]))
.ret)))
def rd_r13_Few : List RD := [.tmp 2 true none]
theorem ok_r13_Few : fnOk Tryz.prog Tryz.f39 ir_r13_Few rd_r13_Few = true := by kernel_rfl
def S_r13_Few : List AV → List Obj → Option (Prop × AV)
  | [.imm ty0 l], [] => castO ty0 Y2 l fun l => some ((True, .bool (fewL l)))
  | _, _ => none
theorem snd_r13_Few : SoundS Tryz.prog 39 (RoF S_r13_Few).sum := by
  refine ro_fn Tryz.func39 ok_r13_Few (env_cons (s := RoF S_r12_Few) snd_r12_Few (env_nil _)) fun args objs p v e => ?_
  unfold S_r13_Few at e
  split at e
  · rename_i ty0 l
    obtain rfl := castO_ty e
    replace e := castO_go e
    cases e
    refine ⟨rfl, fun hw ho hp => ?_⟩
    change List AC at l
    have hl : l.length ≤ maxLen := (hw (.imm Y2 l) (by simp)).2
    unfold maxLen at hl
    clear hw ho
    repeat' (intro t ht; first | (cases t <;> first | (cases ht; done) | ((try simp only [bn_s] at ht); (try simp only [nd_s] at ht))) | (refine castG_go ht ?_; clear ht) | (refine ht ?_ ?_ <;> clear ht) | (refine ht.1 ?_ ?_ <;> clear ht) | (refine ht ?_; clear ht))
    all_goals first
      | (intro r h1 h2; clear h1; refine h2 ⟨[0, 3], Nat, (fun i => i ≤ l.length ∧ (l.take i).all fwA = true), fun i => [.imm Y2 l, .int .i64 i], fun _ => [], fun i => l.length - i, ⟨0, ⟨Nat.zero_le _, rfl⟩, rfl, rfl⟩, ?_⟩; clear h2)
    rintro i ⟨hi, he⟩
    repeat' (intro t ht; first | (cases t <;> first | (cases ht; done) | ((try simp only [bn_s] at ht); (try simp only [nd_s] at ht); (try (exfalso; first | contradiction | omega)))) | (refine castG_go ht ?_; clear ht) | (refine ht ?_ ?_ <;> clear ht) | (refine ht.1 ?_ ?_ <;> clear ht) | (refine ht ?_; clear ht))
    all_goals (try generalize (Ty.dflt Y2) = od at *)
    all_goals first
      | exact True.intro
      | ((try simp only [nd_s, bn_s, mm_s] at *); omega)
      | (have h := allT_end (by omega) he
         refine ⟨?_, rfl⟩; unfold fewL; rw [h, Bool.true_and]; congr 1; exact decide_eq_decide.2 (by omega))
      | (have hf := fwA_t ht
         exact ⟨i + 1, ⟨by omega, allT_step (d := od) (by omega) he hf⟩, by dsimp only; omega, rfl, rfl⟩)
      | (have hf := fwA_f ht
         have h : fewL l = false := by unfold fewL; rw [all_miss (d := od) (show i < l.length by omega) hf, Bool.false_and]
         refine ⟨?_, rfl⟩; rw [h]; done)
      | trace_state
  · cases e
end Go.Eng
namespace Go.Eng
open Go.Proofs
set_option linter.unusedVariables false
set_option linter.unusedSimpArgs false
set_option maxRecDepth 100000
set_option maxHeartbeats 1000000
end Go.Eng
namespace Go.Eng
open Go.Proofs
set_option linter.unusedVariables false
set_option linter.unusedSimpArgs false
set_option maxRecDepth 100000
set_option maxHeartbeats 1000000
end Go.Eng
namespace Go.Eng
open Go.Proofs
set_option linter.unusedVariables false
set_option linter.unusedSimpArgs false
set_option maxRecDepth 100000
set_option maxHeartbeats 1000000
def smA (a b : AC) : Bool := sameA a.1 a.2.1 a.2.2.1 a.2.2.2.1.1 a.2.2.2.1.2.1 a.2.2.2.1.2.2.1 a.2.2.2.1.2.2.2.1 a.2.2.2.1.2.2.2.2.1 a.2.2.2.1.2.2.2.2.2.1 a.2.2.2.2.1 b.1 b.2.1 b.2.2.1 b.2.2.2.1.1 b.2.2.2.1.2.1 b.2.2.2.1.2.2.1 b.2.2.2.1.2.2.2.1 b.2.2.2.1.2.2.2.2.1 b.2.2.2.1.2.2.2.2.2.1 b.2.2.2.2.1
theorem smA_t {a b : AC} (h : smA a b = true) : a = b := by
  obtain ⟨a1, a2, a3, ⟨a4, a5, a6, a7, a8, a9, _⟩, a10, _⟩ := a
  obtain ⟨b1, b2, b3, ⟨b4, b5, b6, b7, b8, b9, _⟩, b10, _⟩ := b
  unfold smA sameA sameO at h
  simp only [Bool.and_eq_true, decide_eq_true_eq, beq_iff_eq] at h
  obtain ⟨⟨⟨⟨h1, h2⟩, h3⟩, ⟨⟨⟨⟨⟨h4, h5⟩, h7⟩, h6⟩, h8⟩, h9⟩⟩, h10⟩ := h
  rw [h1, h2, h3, h4, h5, h6, h7, h8, h9, h10]
theorem smA_f {a b : AC} (h : smA a b = false) : ¬ a = b := fun e => by
  rw [e] at h; unfold smA at h; rw [same_selfA] at h; cases h
def ir_r13_Same : IR :=
(.seq
(.keep [0, 1]
(.reg [oD 4 (.mov cF)]))
(.seq
(.seq
(.keep [0, 1]
(.reg [oM 6 0,
oE 7 6,
oM 8 1,
oE 9 8,
oB 10 .neq (.t 7) (.t 9)]))
(.cond (.t 10)
(.seq
(.reg [oD 4 (.mov cF)])
.ret)
.skip))
(.seq
(.seq
(.keep [0, 1]
(.reg [oD 5 (.mov (cI 0))]))
(.block 0
(.loop
(.seq
(.seq
(.keep [0, 1, 5]
(.reg [oM 11 5,
oM 12 0,
oE 13 12,
oB 14 .lss (.t 11) (.t 13)]))
(.cond (.t 14)
.skip
(.exit 0)))
(.seq
(.block 1
(.seq
(.keep [0, 1, 5]
(.regD [(oM 17 0, []),
(oM 18 5, [0]),
(oI 19 10 17 18, []),
(oK 20 10 19, []),
(oM 21 1, [0,0,0,0]),
(oM 22 5, [0,0,0,0,0]),
(oI 23 10 21 22, [2,0,0,0]),
(oK 24 10 23, [3,0,0,0]),
(oC 25 127 [.t 20, .t 24], []),
(oD 26 (.un .not (.t 25)), [])]))
(.cond (.t 26)
(.seq
(.keep []
(.reg [oD 4 (.mov cF)]))
.ret)
.skip)))
(.keep [0, 1, 5]
(.reg [oM 15 5,
oB 16 .add (.t 15) (cI 1),
oM 5 16])))))))
(.seq
(.keep []
(.reg [oD 4 (.mov cT)]))
.ret))))
def rd_r13_Same : List RD := [.tmp 4 true none]
theorem ok_r13_Same : fnOk Tryz.prog Tryz.f86 ir_r13_Same rd_r13_Same = true := by kernel_rfl
def S_r13_Same : List AV → List Obj → Option (Prop × AV)
  | [.imm ty0 a, .imm ty1 b], [] => castO ty0 Y2 a fun a => castO ty1 Y2 b fun b => some ((True, .bool (decide ((a : List AC) = b))))
  | _, _ => none
theorem snd_r13_Same : SoundS Tryz.prog 86 (RoF S_r13_Same).sum := by
  refine ro_fn Tryz.func86 ok_r13_Same (env_cons (s := RoF S_r12_Same) snd_r12_Same (env_nil _)) fun args objs p v e => ?_
  unfold S_r13_Same at e
  split at e
  · rename_i ty0 a ty1 b
    obtain rfl := castO_ty e
    replace e := castO_go e
    obtain rfl := castO_ty e
    replace e := castO_go e
    cases e
    refine ⟨rfl, fun hw ho hp => ?_⟩
    change List AC at a
    change List AC at b
    have hl : a.length ≤ maxLen := (hw (.imm Y2 a) (by simp)).2
    unfold maxLen at hl
    clear hw ho
    repeat' (intro t ht; first | (cases t <;> first | (cases ht; done) | ((try simp only [bn_s] at ht); (try simp only [nd_s] at ht))) | (refine castG_go ht ?_; clear ht) | (refine ht ?_ ?_ <;> clear ht) | (refine ht.1 ?_ ?_ <;> clear ht) | (refine ht ?_; clear ht))
    all_goals first
      | (have hne : a ≠ b := fun h => (by assumption : ¬ (a.length : Int) = b.length) (by rw [h])
         refine ⟨?_, rfl⟩; rw [decide_eq_false hne]; done)
      | (intro r h1 h2; clear h1; refine h2 ⟨[0, 1, 5], Nat, (fun i => i ≤ a.length ∧ a.take i = b.take i), fun i => [.imm Y2 a, .imm Y2 b, .int .i64 i], fun _ => [], fun i => a.length - i, ⟨0, ⟨Nat.zero_le _, rfl⟩, rfl, rfl⟩, ?_⟩; clear h2)
    rintro i ⟨hi, he⟩
    have hl2 : a.length = b.length := by omega
    repeat' (intro t ht; first | (cases t <;> first | (cases ht; done) | ((try simp only [bn_s] at ht); (try simp only [nd_s] at ht); (try (exfalso; first | contradiction | omega)))) | (refine castG_go ht ?_; clear ht) | (refine ht ?_ ?_ <;> clear ht) | (refine ht.1 ?_ ?_ <;> clear ht) | (refine ht ?_; clear ht))
    all_goals (try generalize (Ty.dflt Y2) = od at *)
    all_goals first
      | exact True.intro
      | ((try simp only [nd_s, bn_s, mm_s] at *); omega)
      | (have e := tkAll he (by omega) hl2
         refine ⟨?_, rfl⟩; rw [decide_eq_true e]; done)
      | (have hs : smA (a.getD i od) (b.getD i od) = false := by assumption
         have hne : a ≠ b := tkNe (d := od) (i := i) (smA_f hs)
         refine ⟨?_, rfl⟩; rw [decide_eq_false hne]; done)
      | (have hs : smA (a.getD i od) (b.getD i od) = true := by assumption
         exact ⟨i + 1, ⟨by omega, tkStep he (by omega) hl2 (d := od) (smA_t hs)⟩, by (try simp only [nd_s, bn_s, mm_s] at *); omega, rfl, rfl⟩)
      | trace_state
  · cases e
def ir_slices_EqualFunc_api_Act_api_Act_api_Act_api_Act : IR :=
(.seq
(.keep [0, 1, 2]
(.reg [oD 6 (.mov cF)]))
(.seq
(.seq
(.keep [0, 1, 2]
(.reg [oM 10 0,
oE 11 10,
oM 12 1,
oE 13 12,
oB 14 .neq (.t 11) (.t 13)]))
(.cond (.t 14)
(.seq
(.reg [oD 6 (.mov cF)])
.ret)
.skip))
(.seq
(.seq
(.keep [0, 1, 2]
(.reg [oM 15 0,
oE 16 15,
oD 17 (.mov (cI 0))]))
(.block 0
(.loop
(.seq
(.keep [1, 2, 15, 16, 17]
(.reg [oB 18 .lss (.t 17) (.t 16)]))
(.seq
(.cond (.t 18)
.skip
(.exit 0))
(.seq
(.block 1
(.seq
(.keep [1, 2, 15, 16, 17]
(.reg [oM 19 17,
oI 20 10 15 17,
oK 21 10 20,
oD 8 (.box [.int .i64 0, .int .u64 0, .int .u64 0, .int .i64 0, .int .i64 0, .kb false, .int .u64 0, .imm (.int .u8) [], .imm (.int .u8) [], .imm (.int .u8) []]),
oM 7 19,
oS 10 8 21]))
(.seq
(.keep [1, 2, 7, 8, 15, 16, 17]
(.reg [oM 22 1,
oM 23 7,
oI 24 10 22 23,
oK 25 10 24,
oD 9 (.box [.int .i64 0, .int .u64 0, .int .u64 0, .int .i64 0, .int .i64 0, .kb false, .int .u64 0, .imm (.int .u8) [], .imm (.int .u8) [], .imm (.int .u8) []]),
oS 10 9 25]))
(.seq
(.keep [1, 2, 8, 9, 15, 16, 17]
(.reg [oM 26 2,
oK 27 10 8,
oK 28 10 9,
oD 29 (.call false (.t 26) [.t 27, .t 28]),
oD 30 (.un .not (.t 29))]))
(.cond (.t 30)
(.seq
(.reg [oD 6 (.mov cF)])
.ret)
.skip)))))
(.keep [1, 2, 15, 16, 17]
(.reg [oB 31 .add (.t 17) (cI 1),
oM 17 31]))))))))
(.seq
(.keep []
(.reg [oD 6 (.mov cT)]))
.ret))))
def rd_slices_EqualFunc_api_Act_api_Act_api_Act_api_Act : List RD := [.tmp 6 true none]
theorem ok_slices_EqualFunc_api_Act_api_Act_api_Act_api_Act : fnOk Tryz.prog Tryz.f100 ir_slices_EqualFunc_api_Act_api_Act_api_Act_api_Act rd_slices_EqualFunc_api_Act_api_Act_api_Act_api_Act = true := by kernel_rfl
def S_slices_EqualFunc_api_Act_api_Act_api_Act_api_Act : List AV → List Obj → Option (Prop × AV)
  | [.imm ty0 a, .imm ty1 b, .fn 101 [] []], [] => castO ty0 Y2 a fun a => castO ty1 Y2 b fun b => some ((True, .bool (decide ((a : List AC) = b))))
  | _, _ => none
theorem snd_slices_EqualFunc_api_Act_api_Act_api_Act_api_Act : SoundS Tryz.prog 100 (RoF S_slices_EqualFunc_api_Act_api_Act_api_Act_api_Act).sum := by
  refine ro_fn Tryz.func100 ok_slices_EqualFunc_api_Act_api_Act_api_Act_api_Act (env_cons (s := RoF S_action_Same) snd_action_Same (env_nil _)) fun args objs p v e => ?_
  unfold S_slices_EqualFunc_api_Act_api_Act_api_Act_api_Act at e
  split at e
  · rename_i ty0 a ty1 b
    obtain rfl := castO_ty e
    replace e := castO_go e
    obtain rfl := castO_ty e
    replace e := castO_go e
    cases e
    refine ⟨rfl, fun hw ho hp => ?_⟩
    change List AC at a
    change List AC at b
    have hl : a.length ≤ maxLen := (hw (.imm Y2 a) (by simp)).2
    unfold maxLen at hl
    clear hw ho
    repeat' (intro t ht; first | (cases t <;> first | (cases ht; done) | ((try simp only [bn_s] at ht); (try simp only [nd_s] at ht))) | (refine castG_go ht ?_; clear ht) | (refine ht ?_ ?_ <;> clear ht) | (refine ht.1 ?_ ?_ <;> clear ht) | (refine ht ?_; clear ht))
    all_goals first
      | (have hne : a ≠ b := fun h => (by assumption : ¬ (a.length : Int) = b.length) (by rw [h])
         refine ⟨?_, rfl⟩; rw [decide_eq_false hne]; done)
      | (intro r h1 h2; clear h1; refine h2 ⟨[1, 2, 15, 16, 17], Nat, (fun i => i ≤ a.length ∧ a.take i = b.take i), fun i => [.imm Y2 b, .fn 101 [] [], .imm Y2 a, .int .i64 a.length, .int .i64 i], fun _ => [], fun i => a.length - i, ⟨0, ⟨Nat.zero_le _, rfl⟩, rfl, rfl⟩, ?_⟩; clear h2)
    rintro i ⟨hi, he⟩
    have hl2 : a.length = b.length := by omega
    repeat' (intro t ht; first | (cases t <;> first | (cases ht; done) | ((try simp only [bn_s] at ht); (try simp only [nd_s] at ht); (try (exfalso; first | contradiction | omega)))) | (refine castG_go ht ?_; clear ht) | (refine ht ?_ ?_ <;> clear ht) | (refine ht.1 ?_ ?_ <;> clear ht) | (refine ht ?_; clear ht))
    all_goals (try generalize (Ty.dflt Y2) = od at *)
    all_goals first
      | exact True.intro
      | ((try simp only [nd_s, bn_s, mm_s] at *); omega)
      | (have e := tkAll he (by omega) hl2
         refine ⟨?_, rfl⟩; rw [decide_eq_true e]; done)
      | (have hs : smA (a.getD i od) (b.getD i od) = false := by assumption
         have hne : a ≠ b := tkNe (d := od) (i := i) (smA_f hs)
         refine ⟨?_, rfl⟩; rw [decide_eq_false hne]; done)
      | (have hs : smA (a.getD i od) (b.getD i od) = true := by assumption
         exact ⟨i + 1, ⟨by omega, tkStep he (by omega) hl2 (d := od) (smA_t hs)⟩, by (try simp only [nd_s, bn_s, mm_s] at *); omega, rfl, rfl⟩)
      | trace_state
  · cases e
def ir_acts_Same : IR :=
(.seq
(.keep [0, 1]
(.reg [oD 4 (.mov cF)]))
(.seq
(.reg [oM 5 0,
oM 6 1,
oC 7 100 [.t 5, .t 6, .f 101],
oM 4 7])
.ret))
def rd_acts_Same : List RD := [.tmp 4 true none]
theorem ok_acts_Same : fnOk Tryz.prog Tryz.f59 ir_acts_Same rd_acts_Same = true := by kernel_rfl
def S_acts_Same : List AV → List Obj → Option (Prop × AV)
  | [.imm ty0 a, .imm ty1 b], [] => castO ty0 Y2 a fun a => castO ty1 Y2 b fun b => some ((True, .bool (decide ((a : List AC) = b))))
  | _, _ => none
theorem snd_acts_Same : SoundS Tryz.prog 59 (RoF S_acts_Same).sum := by
  refine ro_fn Tryz.func59 ok_acts_Same (env_cons (s := RoF S_slices_EqualFunc_api_Act_api_Act_api_Act_api_Act) snd_slices_EqualFunc_api_Act_api_Act_api_Act_api_Act (env_cons (s := RoF S_action_Same) snd_action_Same (env_nil _))) fun args objs p v e => ?_
  unfold S_acts_Same at e
  split at e
  · rename_i ty0 a ty1 b
    obtain rfl := castO_ty e
    replace e := castO_go e
    obtain rfl := castO_ty e
    replace e := castO_go e
    cases e
    refine ⟨rfl, fun hw ho hp => ?_⟩
    repeat' (intro t ht; first | (cases t <;> first | (cases ht; done) | ((try simp only [bn_s] at ht); (try simp only [nd_s] at ht); (try (exfalso; first | contradiction | omega)))) | (refine castG_go ht ?_; clear ht) | (refine ht ?_ ?_ <;> clear ht) | (refine ht.1 ?_ ?_ <;> clear ht) | (refine ht ?_; clear ht))
    all_goals first
      | exact True.intro
      | exact ⟨rfl, rfl⟩
      | exact rfl
  · cases e
end Go.Eng
namespace Go.Eng
open Go.Proofs
set_option linter.unusedVariables false
set_option linter.unusedSimpArgs false
set_option maxRecDepth 100000
set_option maxHeartbeats 1000000
def ir_r01_Put_k : IR :=
(.seq
(.keep [0, 1]
(.reg [oD 4 (.nilrow (.int .u8)),
oD 5 (.mov cF)]))
(.seq
(.seq
(.keep [0, 1]
(.reg [oM 9 0,
oC 10 67 [.t 9],
oD 11 (.un .not (.t 10)),
oM 12 11,
oF 12 13 (.mov (.t 0)),
oF 12 14 (.call false (.f 68) [(.t 13)]),
oF 12 15 (.mov (.t 1)),
oF 12 16 (.len (.t 15)),
oF 12 17 (.bin .neq (.t 14) (.t 16)),
oP 18 12 cT (.t 17)]))
(.cond (.t 18)
(.seq
(.keep []
(.reg [oD 4 (.nilrow (.int .u8)),
oD 5 (.mov cF)]))
.ret)
.skip))
(.seq
(.keep [0, 1]
(.reg [oD 6 (.nilrow (.int .u8))]))
(.seq
(.reg [oD 7 (.mov (cI 0))])
(.seq
(.seq
(.reg [oD 8 (.mov (cI 0))])
(.block 0
(.loop
(.seq
(.seq
(.keep [0, 1, 6, 7, 8]
(.reg [oM 19 8,
oM 20 0,
oE 21 20,
oB 22 .lss (.t 19) (.t 21)]))
(.cond (.t 22)
.skip
(.exit 0)))
(.seq
(.block 1
(.seq
(.seq
(.keep [0, 1, 6, 7, 8]
(.reg [oM 25 0,
oM 26 8,
oI 27 1 25 26,
oL 28 27,
oB 29 .lss (.t 28) (cI 0)]))
(.cond (.t 29)
(.seq
(.keep [0, 1, 6, 7, 8]
(.reg [oM 30 6,
oM 31 0,
oM 32 8,
oI 33 1 31 32,
oL 34 33,
oD 35 (.un .neg (.t 34)),
oD 36 (.appendz (.int .u8) 1 (0 : Int) (.t 30) (.t 35)),
oM 6 36]))
(.exit 1))
.skip))
(.seq
(.seq
(.keep [0, 1, 6, 7, 8]
(.regD [(oM 37 1, []),
(oM 38 7, [0]),
(oI 39 1 37 38, []),
(oL 40 39, []),
(oM 41 0, [0,0,0,0]),
(oM 42 8, [0,0,0,0,0]),
(oI 43 1 41 42, [2,0,0,0]),
(oL 44 43, [3,0,0,0]),
(oC 45 69 [.t 40, .t 44], []),
(oD 46 (.un .not (.t 45)), [])]))
(.cond (.t 46)
(.seq
(.keep []
(.reg [oD 4 (.nilrow (.int .u8)),
oD 5 (.mov cF)]))
.ret)
.skip))
(.seq
(.keep [0, 1, 6, 7, 8]
(.regD [(oM 47 6, []),
(oM 48 1, [0]),
(oM 49 7, [0,0]),
(oI 50 1 48 49, [2]),
(oL 51 50, [3]),
(oM 52 0, [0,0,0,0,0]),
(oM 53 8, [0,0,0,0,0,0]),
(oI 54 1 52 53, [2,0,0,0,0]),
(oL 55 54, [3,0,0,0,0]),
(oC 56 70 [.t 51, .t 55], [8]),
(oD 57 (.append (.int .u8) 1 (.t 47) (.t 56)), []),
(oM 6 57, [])]))
(.keep [0, 1, 6, 7, 8]
(.reg [oM 58 7,
oB 59 .add (.t 58) (cI 1),
oM 7 59]))))))
(.keep [0, 1, 6, 7, 8]
(.reg [oM 23 8,
oB 24 .add (.t 23) (cI 1),
oM 8 24])))))))
(.seq
(.keep [6]
(.reg [oM 60 6,
oM 4 60,
oD 5 (.mov cT)]))
.ret))))))
def rd_r01_Put_k : List RD := [.tmp 4 false none, .tmp 5 false none]
theorem ok_r01_Put_k : fnOk Tryz.prog Tryz.f24 ir_r01_Put_k rd_r01_Put_k = true := by kernel_rfl
def S_r01_Put_k : List AV → List Obj → Option (Prop × AV × List Obj)
  | [.imm (.int .i64) w, .imm (.int .u64) xs], [] => some ((True, .tup [.own 0, .bool (putK w xs)], [.row false (.int .u8) (putB w xs)]))
  | _, _ => none
theorem snd_r01_Put_k : SoundS Tryz.prog 24 (RwF S_r01_Put_k).sum := by
  refine rw_fn Tryz.func24 ok_r01_Put_k (env_cons (s := RoF S_r01_Right) snd_r01_Right (env_cons (s := RoF S_r01_Count) snd_r01_Count (env_cons (s := RoF S_r01_Fits) snd_r01_Fits (env_cons (s := RwF S_r01_Num) snd_r01_Num (env_nil _))))) fun args objs p v o e => ?_
  unfold S_r01_Put_k at e
  split at e
  · rename_i w xs
    cases e
    refine ⟨rfl, fun hw ho hp => ?_⟩
    change List Int at w
    change List Int at xs
    have hx : xs.length ≤ maxLen := (hw (.imm (.int .u64) xs) (by simp)).2
    unfold maxLen at hx
    repeat' (intro t ht; first | (cases t <;> first | (cases ht; done) | ((try simp only [bn_s] at ht); (try simp only [nd_s] at ht))) | (refine castG_go ht ?_; clear ht) | (refine ht ?_ ?_ <;> clear ht) | (refine ht.1 ?_ ?_ <;> clear ht) | (refine ht ?_; clear ht))
    all_goals first
      | exact True.intro
      | (intro r h1 h2; clear h1; refine h2 ⟨[0, 1, 6, 7, 8], Nat × Nat × List Int, (fun a => a.1 ≤ w.length ∧ (a.2.2.length : Int) = sumT absI w a.1 ∧ sumT oneI w a.1 = a.2.1 ∧ putA w xs [] = putA (w.drop a.1) (xs.drop a.2.1) a.2.2), fun a => [.imm (.int .i64) w, .imm (.int .u64) xs, .own 0, .int .i64 a.2.1, .int .i64 a.1], fun a => [.row false (.int .u8) a.2.2], fun a => w.length - a.1, ⟨(0, 0, []), ⟨Nat.zero_le _, rfl, rfl, rfl⟩, rfl, rfl⟩, ?_⟩; clear h2)
      | ((try simp only [nd_s, bn_s, mm_s] at *); omega)
      | (have hn : ¬ (rightF w = true ∧ countW w = xs.length) := fun h => by simp_all
         unfold putB putK putF; rw [if_neg hn]; exact ⟨rfl, rfl⟩)
      | trace_state
    rintro ⟨i, k, b⟩ ⟨hi, hb, hk, he⟩
    dsimp only at hi hb hk he
    have hr : rightF w = true := by assumption
    have hc : countW w = xs.length := by assumption
    have hsum : (w.map oneI).sum = xs.length := by unfold countW at hc; rwa [if_pos hr] at hc
    have hl := (rightF_t.1 hr).1
    have hs := sumT_abs hr i
    have h1 := sumT_one hr i
    repeat' (intro t ht; first | (cases t <;> first | (cases ht; done) | ((try simp only [bn_s] at ht); (try simp only [nd_s] at ht))) | (refine castG_go ht ?_; clear ht) | (refine ht ?_ ?_ <;> clear ht) | (refine ht.1 ?_ ?_ <;> clear ht) | (refine ht ?_; clear ht))
    all_goals first
      | ((try simp only [nd_s, bn_s, mm_s] at *); omega)
      | (have hge : w.length ≤ i := by omega
         rw [List.drop_of_length_le hge] at he
         have hf : putF w xs = some b := by unfold putF; rw [if_pos ⟨hr, hc⟩, he]; rfl
         unfold putB putK; rw [hf]; exact ⟨rfl, rfl⟩)
      | skip
    all_goals have hlt : i < w.length := by omega
    all_goals have hkk := (rightF_t.1 hr).2 _ (getD_mem' (α := Int) hlt 0)
    all_goals first
      | ((try simp only [nd_s, bn_s, mm_s] at *); omega)
      | (have hn : w.getD i 0 < 0 := by assumption
         have ha := absI_neg hn
         have h0 : oneI (w.getD i 0) = 0 := if_neg (by omega)
         have hbl := bytesN_len (n := 0) (w := 0 - w.getD i 0) (by omega)
         first
           | ((try simp only [nd_s, bn_s, mm_s] at *); omega)
           | (refine ⟨(i + 1, k, b ++ bytesN 0 (0 - w.getD i 0)), ⟨hlt, ?_, ?_, ?_⟩, by dsimp only; omega, rfl, ?_⟩
              · rw [sumT_step absI hlt, ha]; simp only [List.length_append]; omega
              · rw [sumT_step oneI hlt, h0]; dsimp only; omega
              · rw [he]; exact putA_neg hlt hn
              · dsimp only; rw [← bytesN_zero]; rfl))
      | (have hn : ¬ w.getD i 0 < 0 := by assumption
         have hlt2 := sumT_lt (w := w) (i := i) hlt (by omega)
         have h2 : k < xs.length := by omega
         first
           | ((try simp only [nd_s, bn_s, mm_s] at *); omega)
           | (have h8 := fitsN_put (by assumption) hkk.2.1
              have hf : putF w xs = none := by unfold putF; rw [if_pos ⟨hr, hc⟩, he]; exact putA_none hlt hn h2 h8.1 h8.2
              unfold putB putK; rw [hf]; exact ⟨rfl, rfl⟩)
           | (have h8 := fitsN_ok (by assumption)
              have ha := absI_nn hn
              have h0 : oneI (w.getD i 0) = 1 := if_pos (by omega)
              have hbl := bytesN_len (n := xs.getD k 0) (w := w.getD i 0) (by omega)
              first
                | (simp only [cast_rfl]; (try simp only [nd_s, bn_s, mm_s] at *); omega)
                | (refine ⟨(i + 1, k + 1, b ++ bytesN (xs.getD k 0) (w.getD i 0)), ⟨hlt, ?_, ?_, ?_⟩, by dsimp only; omega, rfl, rfl⟩
                   · rw [sumT_step absI hlt, ha]; simp only [List.length_append]; omega
                   · rw [sumT_step oneI hlt, h0]; dsimp only; omega
                   · rw [he]; exact putA_some hlt hn h2 h8)))
      | trace_state
  · cases e
end Go.Eng
namespace Go.Eng
open Go.Proofs
set_option linter.unusedVariables false
set_option linter.unusedSimpArgs false
set_option maxRecDepth 100000
set_option maxHeartbeats 1000000
end Go.Eng
namespace Go.Eng
open Go.Proofs
set_option linter.unusedVariables false
set_option linter.unusedSimpArgs false
set_option maxRecDepth 100000
set_option maxHeartbeats 1000000
theorem sum_abs0 : ∀ (w : List Int), 0 ≤ (w.map absI).sum
  | [] => Int.le_refl _
  | n :: r => by
    have ha : 0 ≤ absI n := by unfold absI; split <;> omega
    have hr := sum_abs0 r
    rw [List.map_cons, List.sum_cons]; omega
theorem getA_one : ∀ (w b o : List Int), (getA w b o).2 = 1 → (b.length : Int) < (w.map absI).sum
  | [], b, o, h => by cases h
  | n :: r, b, o, h => by
    have ha : 0 ≤ absI n := by unfold absI; split <;> omega
    have hr := sum_abs0 r
    simp only [getA] at h
    rw [List.map_cons, List.sum_cons]
    split at h
    · omega
    · split at h
      · have := getA_one r _ _ h; rw [List.length_drop] at this; omega
      · split at h
        · have := getA_one r _ _ h; rw [List.length_drop] at this; omega
        · exact absurd h (by decide)
theorem getK_one {w b : List Int} (h : getK w b = 1) : (b.length : Int) < sizeW w := by
  unfold getK getF at h
  split at h
  · rename_i c
    unfold sizeW; rw [if_pos c]; exact getA_one _ _ _ h
  · exact absurd h (by decide)
end Go.Eng
namespace Go.Eng
open Go.Proofs
set_option linter.unusedVariables false
set_option linter.unusedSimpArgs false
set_option maxRecDepth 100000
set_option maxHeartbeats 1000000
set_option maxHeartbeats 8000000
end Go.Eng
namespace Go.Eng
open Go.Proofs
set_option linter.unusedVariables false
set_option linter.unusedSimpArgs false
set_option maxRecDepth 100000
set_option maxHeartbeats 1000000
end Go.Eng
namespace Go.Eng
open Go.Proofs
set_option linter.unusedVariables false
set_option linter.unusedSimpArgs false
set_option maxRecDepth 100000
set_option maxHeartbeats 1000000
end Go.Eng
namespace Go.Eng
open Go.Proofs
set_option linter.unusedVariables false
set_option linter.unusedSimpArgs false
set_option maxRecDepth 100000
set_option maxHeartbeats 1000000
end Go.Eng
namespace Go.Eng
open Go.Proofs
set_option linter.unusedVariables false
set_option linter.unusedSimpArgs false
set_option maxRecDepth 100000
set_option maxHeartbeats 1000000
abbrev BK := Int × Int × Int × List AC × Unit
instance : DecidableEq (List AC × Unit) := inferInstance
instance : DecidableEq BK := inferInstance
structure okB (l : List BK) : Prop where
  a : ∀ o ∈ l, okL o.2.2.2.1
  n : l.length ≤ 1000000
theorem failE_ne2 {e x : Int} (h : e ≠ 0) : failE e x ≠ 0 := by unfold failE; rw [if_neg h]; exact h
theorem bufE_ne {x l : List Int} {room e : Int} (h : e ≠ 0) : bufE x l room e ≠ 0 := by unfold bufE; rw [if_neg h]; exact h
theorem rowE_ne {w xs l : List Int} {room e : Int} (h : e ≠ 0) : rowE w xs l room e ≠ 0 := by
  unfold rowE; split
  · exact bufE_ne h
  · exact failE_ne2 h
theorem buf_full {x l : List Int} {room : Int} (h : ¬ (x.length : Int) ≤ room - l.length) : bufE x l room 0 ≠ 0 := by
  unfold bufE; rw [if_pos rfl, if_neg h]; decide
end Go.Eng
namespace Go.Eng
open Go.Proofs
set_option linter.unusedVariables false
set_option linter.unusedSimpArgs false
set_option maxRecDepth 100000
set_option maxHeartbeats 1000000
end Go.Eng
namespace Go.Eng
open Go.Proofs
set_option linter.unusedVariables false
set_option linter.unusedSimpArgs false
set_option maxRecDepth 100000
set_option maxHeartbeats 1000000
end Go.Eng
namespace Go.Eng
open Go.Proofs
set_option linter.unusedVariables false
set_option linter.unusedSimpArgs false
set_option maxRecDepth 100000
set_option maxHeartbeats 1000000
end Go.Eng
namespace Go.Eng
open Go.Proofs
set_option linter.unusedVariables false
set_option linter.unusedSimpArgs false
set_option maxRecDepth 100000
set_option maxHeartbeats 1000000
end Go.Eng
namespace Go.Eng
open Go.Proofs
set_option linter.unusedVariables false
set_option linter.unusedSimpArgs false
set_option maxRecDepth 100000
set_option maxHeartbeats 1000000
end Go.Eng
namespace Go.Eng
open Go.Proofs
set_option linter.unusedVariables false
set_option linter.unusedSimpArgs false
set_option maxRecDepth 100000
set_option maxHeartbeats 1000000
def smB (x y : BK) : Bool := decide (x.1 = y.1) && decide (x.2.1 = y.2.1) && decide (x.2.2.1 = y.2.2.1) && decide (x.2.2.2.1 = y.2.2.2.1)
theorem smB_t {x y : BK} (h : smB x y = true) : x = y := by
  obtain ⟨a, b, c, d, _⟩ := x
  obtain ⟨a', b', c', d', _⟩ := y
  unfold smB at h
  simp only [Bool.and_eq_true, decide_eq_true_eq] at h
  obtain ⟨⟨⟨h1, h2⟩, h3⟩, h4⟩ := h
  rw [h1, h2, h3, h4]
theorem ne_or {x y : BK} (h : ¬ (x.1 = y.1 ∧ x.2.1 = y.2.1 ∧ x.2.2.1 = y.2.2.1 ∧ x.2.2.2.1 = y.2.2.2.1)) : ¬ x = y := fun e => h (by rw [e]; exact ⟨rfl, rfl, rfl, rfl⟩)
theorem eq_of4 {x y : BK} (h : x.1 = y.1 ∧ x.2.1 = y.2.1 ∧ x.2.2.1 = y.2.2.1 ∧ x.2.2.2.1 = y.2.2.2.1) : x = y := smB_t (by unfold smB; rw [h.1, h.2.1, h.2.2.1, h.2.2.2]; simp)
def ir_r16_Same : IR :=
(.seq
(.keep [0, 1]
(.reg [oD 4 (.mov cF)]))
(.seq
(.seq
(.keep [0, 1]
(.reg [oM 8 0,
oE 9 8,
oM 10 1,
oE 11 10,
oB 12 .neq (.t 9) (.t 11)]))
(.cond (.t 12)
(.seq
(.reg [oD 4 (.mov cF)])
.ret)
.skip))
(.seq
(.seq
(.keep [0, 1]
(.reg [oD 5 (.mov (cI 0))]))
(.block 0
(.loop
(.seq
(.seq
(.keep [0, 1, 5]
(.reg [oM 13 5,
oM 14 0,
oE 15 14,
oB 16 .lss (.t 13) (.t 15)]))
(.cond (.t 16)
.skip
(.exit 0)))
(.seq
(.block 1
(.seq
(.keep [0, 1, 5]
(.regD [(oM 19 0, []),
(oM 20 5, [0]),
(oI 21 4 19 20, []),
(oK 22 4 21, []),
(oM 23 1, [0,0,0,0]),
(oM 24 5, [0,0,0,0,0]),
(oI 25 4 23 24, [2,0,0,0]),
(oK 26 4 25, [3,0,0,0]),
(oD 6 (.box [.int .u64 0, .int .u64 0, .int .u64 0, .imm Y2 []]), [0,0,0,0,0,0,0,0]),
(oD 7 (.box [.int .u64 0, .int .u64 0, .int .u64 0, .imm Y2 []]), [0,0,0,0,0,0,0,0,0]),
(oS 4 6 22, [2,0,0,0]),
(oS 4 7 26, [])]))
(.seq
(.keep [0, 1, 5, 6, 7]
(.reg [oA 27 0 6,
oL 28 27,
oA 29 0 7,
oL 30 29,
oB 31 .eql (.t 28) (.t 30),
oM 32 31,
oT 32 33 (.fieldAddr 1 (.t 6)),
oT 32 34 (.load none (.t 33)),
oT 32 35 (.fieldAddr 1 (.t 7)),
oT 32 36 (.load none (.t 35)),
oT 32 37 (.bin .eql (.t 34) (.t 36)),
oP 38 32 (.t 37) cF,
oM 39 38,
oT 39 40 (.fieldAddr 2 (.t 6)),
oT 39 41 (.load none (.t 40)),
oT 39 42 (.fieldAddr 2 (.t 7)),
oT 39 43 (.load none (.t 42)),
oT 39 44 (.bin .eql (.t 41) (.t 43)),
oP 45 39 (.t 44) cF,
oM 46 45,
oT 46 47 (.fieldAddr 3 (.t 6)),
oT 46 48 (.load none (.t 47)),
oT 46 49 (.fieldAddr 3 (.t 7)),
oT 46 50 (.load none (.t 49)),
oT 46 51 (.call false (.f 86) [(.t 48), (.t 50)]),
oP 52 46 (.t 51) cF,
oD 53 (.un .not (.t 52))]))
(.cond (.t 53)
(.seq
(.keep []
(.reg [oD 4 (.mov cF)]))
.ret)
.skip))))
(.keep [0, 1, 5]
(.reg [oM 17 5,
oB 18 .add (.t 17) (cI 1),
oM 5 18])))))))
(.seq
(.keep []
(.reg [oD 4 (.mov cT)]))
.ret))))
def rd_r16_Same : List RD := [.tmp 4 true none]
theorem ok_r16_Same : fnOk Tryz.prog Tryz.f73 ir_r16_Same rd_r16_Same = true := by kernel_rfl
def S_r16_Same : List AV → List Obj → Option (Prop × AV)
  | [.imm ty0 a, .imm ty1 b], [] => castO ty0 Y4 a fun a => castO ty1 Y4 b fun b => some ((True, .bool (decide ((a : List BK) = b))))
  | _, _ => none
theorem snd_r16_Same : SoundS Tryz.prog 73 (RoF S_r16_Same).sum := by
  refine ro_fn Tryz.func73 ok_r16_Same (env_cons (s := RoF S_r13_Same) snd_r13_Same (env_nil _)) fun args objs p v e => ?_
  unfold S_r16_Same at e
  split at e
  · rename_i ty0 a ty1 b
    obtain rfl := castO_ty e
    replace e := castO_go e
    obtain rfl := castO_ty e
    replace e := castO_go e
    cases e
    refine ⟨rfl, fun hw ho hp => ?_⟩
    change List BK at a
    change List BK at b
    have hl : a.length ≤ maxLen := (hw (.imm Y4 a) (by simp)).2
    unfold maxLen at hl
    clear hw ho
    repeat' (intro t ht; first | (cases t <;> first | (cases ht; done) | ((try simp only [bn_s] at ht); (try simp only [nd_s] at ht))) | (refine castG_go ht ?_; clear ht) | (refine ht ?_ ?_ <;> clear ht) | (refine ht.1 ?_ ?_ <;> clear ht) | (refine ht ?_; clear ht))
    all_goals first
      | (have hne : a ≠ b := fun h => (by assumption : ¬ (a.length : Int) = b.length) (by rw [h])
         refine ⟨?_, rfl⟩; rw [decide_eq_false hne]; done)
      | (intro r h1 h2; clear h1; refine h2 ⟨[0, 1, 5], Nat, (fun i => i ≤ a.length ∧ a.take i = b.take i), fun i => [.imm Y4 a, .imm Y4 b, .int .i64 i], fun _ => [], fun i => a.length - i, ⟨0, ⟨Nat.zero_le _, rfl⟩, rfl, rfl⟩, ?_⟩; clear h2)
    rintro i ⟨hi, he⟩
    have hl2 : a.length = b.length := by omega
    repeat' (intro t ht; first | (cases t <;> first | (cases ht; done) | ((try simp only [bn_s] at ht); (try simp only [nd_s] at ht); (try (exfalso; first | contradiction | omega)))) | (refine castG_go ht ?_; clear ht) | (refine ht ?_ ?_ <;> clear ht) | (refine ht.1 ?_ ?_ <;> clear ht) | (refine ht ?_; clear ht))
    all_goals (try generalize (Ty.dflt Y4) = od at *)
    all_goals first
      | exact True.intro
      | ((try simp only [nd_s, bn_s, mm_s] at *); omega)
      | (have e := tkAll he (by omega) hl2
         refine ⟨?_, rfl⟩; rw [decide_eq_true e]; done)
      | (have hne : a ≠ b := tkNe (d := od) (i := i) (ne_or fun h => by simp_all)
         refine ⟨?_, rfl⟩; rw [decide_eq_false hne]; done)
      | (have hs : a.getD i od = b.getD i od := eq_of4 (by simp_all)
         exact ⟨i + 1, ⟨by omega, tkStep he (by omega) hl2 (d := od) hs⟩, by (try simp only [nd_s, bn_s, mm_s] at *); omega, rfl, rfl⟩)
      | skip
  · cases e
def fwB (x : BK) : Bool := fewL x.2.2.2.1
def fewB (l : List BK) : Bool := l.all fwB && decide (l.length ≤ 20)
def ir_r16_Few : IR :=
(.seq
(.keep [0]
(.reg [oD 2 (.mov cF)]))
(.seq
(.seq
(.reg [oD 3 (.mov (cI 0))])
(.block 0
(.loop
(.seq
(.seq
(.keep [0, 3]
(.reg [oM 4 3,
oM 5 0,
oE 6 5,
oB 7 .lss (.t 4) (.t 6)]))
(.cond (.t 7)
.skip
(.exit 0)))
(.seq
(.block 1
(.seq
(.keep [0, 3]
(.reg [oM 10 0,
oM 11 3,
oI 12 4 10 11,
oA 13 3 12,
oL 14 13,
oC 15 39 [.t 14],
oD 16 (.un .not (.t 15))]))
(.cond (.t 16)
(.seq
(.keep []
(.reg [oD 2 (.mov cF)]))
.ret)
.skip)))
(.keep [0, 3]
(.reg [oM 8 3,
oB 9 .add (.t 8) (cI 1),
oM 3 9])))))))
(.seq
(.keep [0]
(.reg [oM 17 0,
oE 18 17,
oB 19 .leq (.t 18) (cI 20),
oM 2 19]))
.ret)))
def rd_r16_Few : List RD := [.tmp 2 true none]
theorem ok_r16_Few : fnOk Tryz.prog Tryz.f41 ir_r16_Few rd_r16_Few = true := by kernel_rfl
def S_r16_Few : List AV → List Obj → Option (Prop × AV)
  | [.imm ty0 l], [] => castO ty0 Y4 l fun l => some ((True, .bool (fewB l)))
  | _, _ => none
theorem snd_r16_Few : SoundS Tryz.prog 41 (RoF S_r16_Few).sum := by
  refine ro_fn Tryz.func41 ok_r16_Few (env_cons (s := RoF S_r13_Few) snd_r13_Few (env_nil _)) fun args objs p v e => ?_
  unfold S_r16_Few at e
  split at e
  · rename_i ty0 l
    obtain rfl := castO_ty e
    replace e := castO_go e
    cases e
    refine ⟨rfl, fun hw ho hp => ?_⟩
    change List BK at l
    have hl : l.length ≤ maxLen := (hw (.imm Y4 l) (by simp)).2
    unfold maxLen at hl
    clear hw ho
    repeat' (intro t ht; first | (cases t <;> first | (cases ht; done) | ((try simp only [bn_s] at ht); (try simp only [nd_s] at ht))) | (refine castG_go ht ?_; clear ht) | (refine ht ?_ ?_ <;> clear ht) | (refine ht.1 ?_ ?_ <;> clear ht) | (refine ht ?_; clear ht))
    all_goals first
      | (intro r h1 h2; clear h1; refine h2 ⟨[0, 3], Nat, (fun i => i ≤ l.length ∧ (l.take i).all fwB = true), fun i => [.imm Y4 l, .int .i64 i], fun _ => [], fun i => l.length - i, ⟨0, ⟨Nat.zero_le _, rfl⟩, rfl, rfl⟩, ?_⟩; clear h2)
    rintro i ⟨hi, he⟩
    repeat' (intro t ht; first | (cases t <;> first | (cases ht; done) | ((try simp only [bn_s] at ht); (try simp only [nd_s] at ht); (try (exfalso; first | contradiction | omega)))) | (refine castG_go ht ?_; clear ht) | (refine ht ?_ ?_ <;> clear ht) | (refine ht.1 ?_ ?_ <;> clear ht) | (refine ht ?_; clear ht))
    all_goals (try generalize (Ty.dflt Y4) = od at *)
    all_goals first
      | exact True.intro
      | ((try simp only [nd_s, bn_s, mm_s] at *); omega)
      | (have h := allT_end (by omega) he
         refine ⟨?_, rfl⟩; unfold fewB; rw [h, Bool.true_and]; congr 1; exact decide_eq_decide.2 (by omega))
      | (have hf : fwB (l.getD i od) = true := by assumption
         exact ⟨i + 1, ⟨by omega, allT_step (d := od) (by omega) he hf⟩, by dsimp only; omega, rfl, rfl⟩)
      | (have hf : fwB (l.getD i od) = false := by assumption
         have h : fewB l = false := by unfold fewB; rw [all_miss (d := od) (show i < l.length by omega) hf, Bool.false_and]
         refine ⟨?_, rfl⟩; rw [h]; done)
      | skip
  · cases e
end Go.Eng
