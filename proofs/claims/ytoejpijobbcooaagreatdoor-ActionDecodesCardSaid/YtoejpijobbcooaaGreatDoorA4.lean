/- Contracts of functions of the given program, told by plain Lean functions. No condition. -/
import Derived.Test.YtoejpijobbcooaaGreatDoorProg
import Derived.Test.YtoejpijobbcooaaGreatDoorEArg
import Derived.KernelRfl
import Derived.Test.YtoejpijobbcooaaGreatDoorA3
namespace Go.Eng
open Go.Proofs
set_option linter.unusedVariables false
set_option linter.unusedSimpArgs false
set_option maxRecDepth 100000
set_option maxHeartbeats 1000000
theorem get22 (b : List Int) : getF [2, 2] b = if b.length < 4 then ([], 1) else ([numL (b.take 2), numL ((b.drop 2).take 2)], 0) := by
  have hr : rightF [2, 2] = true := by decide
  unfold getF
  rw [if_pos hr]
  have a2 : absI 2 = 2 := by decide
  have t2 : Int.toNat 2 = 2 := rfl
  have p2 : (0 : Int) < 2 := by decide
  simp only [getA, a2, t2, if_pos p2, List.length_drop]
  by_cases h : b.length < 4
  · rw [if_pos h]
    by_cases h2 : (b.length : Int) < 2
    · rw [if_pos h2]
    · rw [if_neg h2, if_pos (by omega)]
  · rw [if_neg h, if_neg (by omega), if_neg (by omega)]; rfl
def tT (b : List Int) : Int := numL (b.take 2)
def tN (b : List Int) : Int := numL ((b.drop 2).take 2)
def tlE (b : List Int) (least step bad : Int) : Int := if b.length < 4 then bad else if tN b < least ∨ ¬ (tN b).tmod step = 0 then bad else if (b.length : Int) < tN b then bad else 0
def tlI (b : List Int) (least step bad x : Int) : Int := if tlE b least step bad = 0 then x else 0
def tlR (b : List Int) (least step bad : Int) : List Int := if tlE b least step bad = 0 then (b.take (tN b).toNat).drop 4 else []
theorem num2_le {b : List Int} {a : Nat} (hb : ∀ x ∈ b, 0 ≤ x ∧ x ≤ 255) : 0 ≤ numL ((b.drop a).take 2) ∧ numL ((b.drop a).take 2) ≤ 65535 := by
  have h := numL_le ((b.drop a).take 2) fun x hx => hb x (List.mem_of_mem_drop (List.mem_of_mem_take hx))
  have hl : ((b.drop a).take 2).length ≤ 2 := by rw [List.length_take]; omega
  have hp : ∀ k ≤ 2, (256 : Int) ^ k ≤ 65536 := by decide
  have := hp _ hl
  omega
theorem cur22 {b : List Int} {sh od : Int} : curL [2, 2] b 0 0 = (if b.length < 4 then [] else [tT b, tN b]) ∧ curP [2, 2] b 0 0 = (if b.length < 4 then 0 else 4) ∧ curE [2, 2] b 0 sh od 0 = (if b.length < 4 then sh else 0) := by
  have e : getF [2, 2] (b.drop (0 : Int).toNat) = if b.length < 4 then ([], 1) else ([tT b, tN b], 0) := by
    rw [show (0 : Int).toNat = 0 from rfl, List.drop_zero, get22]; rfl
  have es : sizeW [2, 2] = 4 := by decide
  unfold curL curP curE getL getK
  rw [e, es]
  by_cases h : b.length < 4
  · simp only [if_pos h]; exact ⟨rfl, rfl, rfl⟩
  · simp only [if_neg h]; exact ⟨rfl, rfl, rfl⟩
def ir_tlv_Shape_may : IR :=
(.seq
(.keep [0]
(.reg (⟨some 1, .boxv (.t 0), none⟩ ::
⟨some 2, .mov (.c (.kb false)), none⟩ ::
[])))
(.seq
(.keep [1]
(.reg (⟨some 3, .fieldAddr 0 (.t 1), none⟩ ::
⟨some 4, .load none (.t 3), none⟩ ::
⟨some 5, .bin .geq (.t 4) (.c (.int .i64 4)), none⟩ ::
⟨some 6, .mov (.t 5), none⟩ ::
⟨some 7, .fieldAddr 0 (.t 1), some (6, true)⟩ ::
⟨some 8, .load none (.t 7), some (6, true)⟩ ::
⟨some 9, .bin .leq (.t 8) (.c (.int .i64 60000)), some (6, true)⟩ ::
⟨some 10, .pick (.t 6) (.t 9) (.c (.kb false)), none⟩ ::
⟨some 11, .mov (.t 10), none⟩ ::
⟨some 12, .fieldAddr 1 (.t 1), some (11, true)⟩ ::
⟨some 13, .load none (.t 12), some (11, true)⟩ ::
⟨some 14, .bin .geq (.t 13) (.c (.int .i64 1)), some (11, true)⟩ ::
⟨some 15, .pick (.t 11) (.t 14) (.c (.kb false)), none⟩ ::
⟨some 16, .mov (.t 15), none⟩ ::
⟨some 17, .fieldAddr 1 (.t 1), some (16, true)⟩ ::
⟨some 18, .load none (.t 17), some (16, true)⟩ ::
⟨some 19, .bin .leq (.t 18) (.c (.int .i64 64)), some (16, true)⟩ ::
⟨some 20, .pick (.t 16) (.t 19) (.c (.kb false)), none⟩ ::
⟨some 21, .mov (.t 20), none⟩ ::
⟨some 22, .fieldAddr 3 (.t 1), some (21, true)⟩ ::
⟨some 23, .load none (.t 22), some (21, true)⟩ ::
⟨some 24, .bin .neq (.t 23) (.c (.int .i64 0)), some (21, true)⟩ ::
⟨some 25, .pick (.t 21) (.t 24) (.c (.kb false)), none⟩ ::
⟨some 26, .mov (.t 25), none⟩ ::
⟨some 27, .fieldAddr 4 (.t 1), some (26, true)⟩ ::
⟨some 28, .load none (.t 27), some (26, true)⟩ ::
⟨some 29, .bin .neq (.t 28) (.c (.int .i64 0)), some (26, true)⟩ ::
⟨some 30, .pick (.t 26) (.t 29) (.c (.kb false)), none⟩ ::
⟨some 2, .mov (.t 30), none⟩ ::
[])))
.ret))
def rd_tlv_Shape_may : List RD := [.tmp 2 true none]
theorem ok_tlv_Shape_may : fnOk Tryz.prog Tryz.f98 ir_tlv_Shape_may rd_tlv_Shape_may = true := by kernel_rfl
def S_tlv_Shape_may : List AV → List Obj → Option (Prop × AV)
  | [.agg [.int .i64 least, .int .i64 step, .bool pad, .int .i64 bad, .int .i64 odd]], [] => some ((4 ≤ least ∧ least ≤ 60000 ∧ 1 ≤ step ∧ step ≤ 64 ∧ bad ≠ 0 ∧ odd ≠ 0, .bool true))
  | _, _ => none
theorem snd_tlv_Shape_may : SoundS Tryz.prog 98 (RoF S_tlv_Shape_may).sum := by
  refine ro_fn Tryz.func98 ok_tlv_Shape_may (env_nil _) fun args objs p v e => ?_
  unfold S_tlv_Shape_may at e
  split at e
  · rename_i least step pad bad odd
    cases e
    refine ⟨rfl, fun hw ho hp => ?_⟩
    clear hw ho
    obtain ⟨h1, h2, h3, h4, h5, h6⟩ := hp
    repeat' (intro t ht; first | (cases t <;> first | (cases ht; done) | ((try simp only [Bool.not_eq_eq_eq_not, Bool.not_true, Bool.not_false, Bool.and_eq_true, Bool.and_eq_false_iff, decide_eq_true_eq, decide_eq_false_iff_not] at ht); (try simp only [Int.toNat_natCast, dflt_int] at ht); (try (exfalso; first | contradiction | omega)))) | (refine ht ?_ ?_ <;> clear ht) | (refine ht.1 ?_ ?_ <;> clear ht) | (refine ht ?_; clear ht))
    all_goals first
      | exact True.intro
      | exact ⟨rfl, rfl⟩
      | (exfalso; omega)
      | (refine ⟨congrArg AV.bool ?_, rfl⟩; simp; omega)
      | trace_state
  · cases e
def ir_tlv_Shape_fits : IR :=
(.seq
(.keep [0, 1]
(.reg (⟨some 2, .boxv (.t 0), none⟩ ::
⟨some 4, .mov (.c (.kb false)), none⟩ ::
[])))
(.seq
(.keep [1, 2]
(.reg (⟨some 5, .mov (.t 1), none⟩ ::
⟨some 6, .fieldAddr 0 (.t 2), none⟩ ::
⟨some 7, .load none (.t 6), none⟩ ::
⟨some 8, .bin .geq (.t 5) (.t 7), none⟩ ::
⟨some 9, .mov (.t 8), none⟩ ::
⟨some 10, .fieldAddr 2 (.t 2), some (9, true)⟩ ::
⟨some 11, .load none (.t 10), some (9, true)⟩ ::
⟨some 12, .mov (.t 11), some (9, true)⟩ ::
⟨some 13, .mov (.t 1), some (12, false)⟩ ::
⟨some 14, .fieldAddr 1 (.t 2), some (12, false)⟩ ::
⟨some 15, .load none (.t 14), some (12, false)⟩ ::
⟨some 16, .bin .rem (.t 13) (.t 15), some (12, false)⟩ ::
⟨some 17, .bin .eql (.t 16) (.c (.int .i64 0)), some (12, false)⟩ ::
⟨some 18, .pick (.t 12) (.c (.kb true)) (.t 17), some (9, true)⟩ ::
⟨some 19, .pick (.t 9) (.t 18) (.c (.kb false)), none⟩ ::
⟨some 4, .mov (.t 19), none⟩ ::
[])))
.ret))
def rd_tlv_Shape_fits : List RD := [.tmp 4 true none]
theorem ok_tlv_Shape_fits : fnOk Tryz.prog Tryz.f99 ir_tlv_Shape_fits rd_tlv_Shape_fits = true := by kernel_rfl
def S_tlv_Shape_fits : List AV → List Obj → Option (Prop × AV)
  | [.agg [.int .i64 least, .int .i64 step, .bool pad, .int .i64 bad, .int .i64 odd], .int .i64 n], [] => some ((pad = false ∧ 1 ≤ step, .bool (decide (least ≤ n) && decide (n.tmod step = 0))))
  | _, _ => none
theorem snd_tlv_Shape_fits : SoundS Tryz.prog 99 (RoF S_tlv_Shape_fits).sum := by
  refine ro_fn Tryz.func99 ok_tlv_Shape_fits (env_nil _) fun args objs p v e => ?_
  unfold S_tlv_Shape_fits at e
  split at e
  · rename_i least step pad bad odd n
    cases e
    refine ⟨rfl, fun hw ho hp => ?_⟩
    clear hw ho
    obtain ⟨rfl, h1⟩ := hp
    repeat' (intro t ht; first | (cases t <;> first | (cases ht; done) | ((try simp only [Bool.not_eq_eq_eq_not, Bool.not_true, Bool.not_false, Bool.and_eq_true, Bool.and_eq_false_iff, decide_eq_true_eq, decide_eq_false_iff_not] at ht); (try simp only [Int.toNat_natCast, dflt_int] at ht); (try (exfalso; first | contradiction | omega)))) | (refine ht ?_ ?_ <;> clear ht) | (refine ht.1 ?_ ?_ <;> clear ht) | (refine ht ?_; clear ht))
    all_goals first
      | exact True.intro
      | omega
      | (refine ⟨congrArg AV.bool ?_, rfl⟩; simp_all; done)
      | (refine ⟨congrArg AV.bool ?_, rfl⟩; rw [decide_eq_false (by omega)]; rfl)
      | trace_state
  · cases e
def ir_tlv_Shape_zeros : IR :=
(.seq
(.keep [0, 1]
(.reg (⟨some 2, .boxv (.t 0), none⟩ ::
⟨some 4, .mov (.c (.int .i64 0)), none⟩ ::
[])))
(.seq
(.seq
(.reg (⟨some 5, .fieldAddr 2 (.t 2), none⟩ ::
⟨some 6, .load none (.t 5), none⟩ ::
⟨some 7, .un .not (.t 6), none⟩ ::
[]))
(.cond (.t 7)
(.seq
(.reg (⟨some 4, .mov (.c (.int .i64 0)), none⟩ ::
[]))
.ret)
.skip))
(.seq
(.keep [1, 2]
(.regD ((⟨some 8, .fieldAddr 1 (.t 2), none⟩, []) ::
(⟨some 9, .load none (.t 8), none⟩, []) ::
(⟨some 10, .mov (.t 1), none⟩, [0, 0]) ::
(⟨some 11, .fieldAddr 1 (.t 2), none⟩, [0, 0, 0]) ::
(⟨some 12, .load none (.t 11), none⟩, [1, 0, 0]) ::
(⟨some 13, .bin .rem (.t 10) (.t 12), none⟩, [3, 0]) ::
(⟨some 14, .bin .sub (.t 9) (.t 13), none⟩, []) ::
(⟨some 15, .fieldAddr 1 (.t 2), none⟩, [0, 0, 0, 0, 0, 0, 0]) ::
(⟨some 16, .load none (.t 15), none⟩, [1, 0, 0, 0, 0, 0, 0]) ::
(⟨some 17, .bin .rem (.t 14) (.t 16), none⟩, []) ::
(⟨some 4, .mov (.t 17), none⟩, []) ::
[])))
.ret)))
def rd_tlv_Shape_zeros : List RD := [.tmp 4 true none]
theorem ok_tlv_Shape_zeros : fnOk Tryz.prog Tryz.f100 ir_tlv_Shape_zeros rd_tlv_Shape_zeros = true := by kernel_rfl
def S_tlv_Shape_zeros : List AV → List Obj → Option (Prop × AV)
  | [.agg [.int .i64 least, .int .i64 step, .bool pad, .int .i64 bad, .int .i64 odd], .int .i64 n], [] => some ((pad = false, .int .i64 0))
  | _, _ => none
theorem snd_tlv_Shape_zeros : SoundS Tryz.prog 100 (RoF S_tlv_Shape_zeros).sum := by
  refine ro_fn Tryz.func100 ok_tlv_Shape_zeros (env_nil _) fun args objs p v e => ?_
  unfold S_tlv_Shape_zeros at e
  split at e
  · rename_i least step pad bad odd n
    cases e
    refine ⟨rfl, fun hw ho hp => ?_⟩
    clear hw ho
    subst hp
    repeat' (intro t ht; first | (cases t <;> first | (cases ht; done) | ((try simp only [Bool.not_eq_eq_eq_not, Bool.not_true, Bool.not_false, Bool.and_eq_true, Bool.and_eq_false_iff, decide_eq_true_eq, decide_eq_false_iff_not] at ht); (try simp only [Int.toNat_natCast, dflt_int] at ht); (try (exfalso; first | contradiction | omega)))) | (refine ht ?_ ?_ <;> clear ht) | (refine ht.1 ?_ ?_ <;> clear ht) | (refine ht ?_; clear ht))
    all_goals first
      | exact True.intro
      | exact ⟨rfl, rfl⟩
      | trace_state
  · cases e
def ir_tlv_One : IR :=
(.seq
(.keep [0, 1]
(.reg (⟨some 2, .boxv (.t 0), none⟩ ::
⟨some 4, .box [.int .i64 0, .imm (.int .u8) []], none⟩ ::
⟨some 5, .mov (.c (.int .i64 0)), none⟩ ::
⟨some 6, .mov (.c (.int .i64 0)), none⟩ ::
[])))
(.seq
(.seq
(.reg (⟨some 13, .load (some 5) (.t 2), none⟩ ::
⟨some 14, .call false (.f 98) [(.t 13)], none⟩ ::
⟨some 15, .un .not (.t 14), none⟩ ::
[]))
(.cond (.t 15)
(.seq
(.keep [4]
(.reg (⟨some 16, .build [.int .i64 0, .imm (.int .u8) []] [], none⟩ ::
⟨none, .store 2 (.t 4) (.t 16), none⟩ ::
⟨some 5, .mov (.c (.int .i64 0)), none⟩ ::
⟨some 6, .mov (.c (.int .i64 10001)), none⟩ ::
[])))
.ret)
.skip))
(.seq
(.keep [1, 2, 4]
(.reg (⟨some 17, .mov (.t 1), none⟩ ::
⟨some 18, .fieldAddr 3 (.t 2), none⟩ ::
⟨some 19, .load none (.t 18), none⟩ ::
⟨some 20, .fieldAddr 4 (.t 2), none⟩ ::
⟨some 21, .load none (.t 20), none⟩ ::
⟨some 22, .call false (.f 29) [(.t 17), (.t 19), (.t 21)], none⟩ ::
⟨some 7, .mov (.t 22), none⟩ ::
[])))
(.seq
(.keep [1, 2, 4, 7]
(.reg (⟨some 23, .mov (.t 7), none⟩ ::
⟨some 24, .sliceAll (.int .i64) 2 [(0, 1, (.c (.int .i64 2))), (1, 1, (.c (.int .i64 2)))], none⟩ ::
⟨some 25, .call false (.f 74) [(.t 23), (.t 24)], none⟩ ::
⟨some 8, .mov (.t 25), none⟩ ::
[])))
(.seq
(.seq
(.reg (⟨some 26, .mov (.t 8), none⟩ ::
⟨some 27, .len (.t 26), none⟩ ::
⟨some 28, .bin .eql (.t 27) (.c (.int .i64 0)), none⟩ ::
[]))
(.cond (.t 28)
(.seq
(.keep [4, 7]
(.reg (⟨some 29, .build [.int .i64 0, .imm (.int .u8) []] [], none⟩ ::
⟨some 30, .mov (.t 7), none⟩ ::
⟨some 31, .call false (.f 33) [(.t 30)], none⟩ ::
⟨none, .store 2 (.t 4) (.t 29), none⟩ ::
⟨some 5, .mov (.c (.int .i64 0)), none⟩ ::
⟨some 6, .mov (.t 31), none⟩ ::
[])))
.ret)
.skip))
(.seq
(.keep [1, 2, 4, 7, 8]
(.reg (⟨some 32, .mov (.t 8), none⟩ ::
⟨some 33, .indexSl 1 (.t 32) (.c (.int .i64 1)), none⟩ ::
⟨some 34, .load none (.t 33), none⟩ ::
⟨some 35, .conv .i64 (.t 34), none⟩ ::
⟨some 9, .mov (.t 35), none⟩ ::
[])))
(.seq
(.seq
(.keep [1, 2, 4, 7, 8, 9]
(.reg (⟨some 36, .load (some 5) (.t 2), none⟩ ::
⟨some 37, .mov (.t 9), none⟩ ::
⟨some 38, .call false (.f 99) [(.t 36), (.t 37)], none⟩ ::
⟨some 39, .un .not (.t 38), none⟩ ::
⟨some 40, .mov (.t 39), none⟩ ::
⟨some 41, .mov (.t 9), some (40, false)⟩ ::
⟨some 42, .load (some 5) (.t 2), some (40, false)⟩ ::
⟨some 43, .mov (.t 9), some (40, false)⟩ ::
⟨some 44, .call false (.f 100) [(.t 42), (.t 43)], some (40, false)⟩ ::
⟨some 45, .bin .add (.t 41) (.t 44), some (40, false)⟩ ::
⟨some 46, .mov (.t 1), some (40, false)⟩ ::
⟨some 47, .len (.t 46), some (40, false)⟩ ::
⟨some 48, .bin .gtr (.t 45) (.t 47), some (40, false)⟩ ::
⟨some 49, .pick (.t 40) (.c (.kb true)) (.t 48), none⟩ ::
[])))
(.cond (.t 49)
(.seq
(.keep [2, 4]
(.regD ((⟨some 50, .build [.int .i64 0, .imm (.int .u8) []] [], none⟩, []) ::
(⟨some 51, .fieldAddr 3 (.t 2), none⟩, [0]) ::
(⟨some 52, .load none (.t 51), none⟩, [1]) ::
(⟨none, .store 2 (.t 4) (.t 50), none⟩, [0, 0]) ::
(⟨some 5, .mov (.c (.int .i64 0)), none⟩, [1, 0]) ::
(⟨some 6, .mov (.t 52), none⟩, []) ::
[])))
.ret)
.skip))
(.seq
(.keep [2, 4, 7, 8, 9]
(.regD ((⟨some 53, .mov (.t 8), none⟩, []) ::
(⟨some 54, .indexSl 1 (.t 53) (.c (.int .i64 0)), none⟩, []) ::
(⟨some 55, .load none (.t 54), none⟩, []) ::
(⟨some 56, .conv .i64 (.t 55), none⟩, []) ::
(⟨some 57, .mov (.t 7), none⟩, [0, 0, 0, 0]) ::
(⟨some 58, .mov (.t 9), none⟩, [0, 0, 0, 0, 0]) ::
(⟨some 59, .bin .sub (.t 58) (.c (.int .i64 4)), none⟩, [1, 0, 0, 0, 0]) ::
(⟨some 60, .call false (.f 30) [(.t 57), (.t 59)], none⟩, [3, 0, 0, 0]) ::
(⟨some 61, .buildAll 2 [(0, 1, (.t 56)), (1, 1, (.t 60))], none⟩, []) ::
(⟨some 10, .box [.int .i64 0, .imm (.int .u8) []], none⟩, [0, 0, 0, 0, 0, 0, 0, 0, 0]) ::
(⟨none, .store 2 (.t 10) (.t 61), none⟩, []) ::
[])))
(.seq
(.seq
(.keep [2, 4, 7, 9, 10]
(.reg (⟨some 62, .load (some 5) (.t 2), none⟩ ::
⟨some 63, .mov (.t 9), none⟩ ::
⟨some 64, .call false (.f 100) [(.t 62), (.t 63)], none⟩ ::
⟨some 11, .mov (.t 64), none⟩ ::
[])))
(.seq
(.reg (⟨some 65, .mov (.t 11), none⟩ ::
⟨some 66, .bin .gtr (.t 65) (.c (.int .i64 0)), none⟩ ::
[]))
(.cond (.t 66)
(.keep [4, 7, 10, 11]
(.reg (⟨some 67, .mov (.t 7), none⟩ ::
⟨some 68, .mov (.t 11), none⟩ ::
⟨some 69, .un .neg (.t 68), none⟩ ::
⟨some 70, .sliceAll (.int .i64) 1 [(0, 1, (.t 69))], none⟩ ::
⟨some 71, .call false (.f 74) [(.t 67), (.t 70)], none⟩ ::
[])))
.skip)))
(.seq
(.seq
(.keep [4, 7, 10]
(.reg (⟨some 72, .mov (.t 7), none⟩ ::
⟨some 73, .call false (.f 33) [(.t 72)], none⟩ ::
⟨some 12, .mov (.t 73), none⟩ ::
[])))
(.seq
(.reg (⟨some 74, .mov (.t 12), none⟩ ::
⟨some 75, .bin .neq (.t 74) (.c (.int .i64 0)), none⟩ ::
[]))
(.cond (.t 75)
(.seq
(.reg (⟨some 76, .build [.int .i64 0, .imm (.int .u8) []] [], none⟩ ::
⟨some 77, .mov (.t 12), none⟩ ::
⟨none, .store 2 (.t 4) (.t 76), none⟩ ::
⟨some 5, .mov (.c (.int .i64 0)), none⟩ ::
⟨some 6, .mov (.t 77), none⟩ ::
[]))
.ret)
.skip)))
(.seq
(.keep [4, 7, 10]
(.regD ((⟨some 78, .load (some 2) (.t 10), none⟩, []) ::
(⟨some 79, .mov (.t 7), none⟩, [0]) ::
(⟨some 80, .call false (.f 34) [(.t 79)], none⟩, [1]) ::
(⟨none, .store 2 (.t 4) (.t 78), none⟩, []) ::
(⟨some 5, .mov (.t 80), none⟩, []) ::
(⟨some 6, .mov (.c (.int .i64 0)), none⟩, []) ::
[])))
.ret)))))))))))
def rd_tlv_One : List RD := [.cell 4 (some 2) true [], .tmp 5 true none, .tmp 6 true none]
theorem ok_tlv_One : fnOk Tryz.prog Tryz.f51 ir_tlv_One rd_tlv_One = true := by kernel_rfl
def S_tlv_One : List AV → List Obj → Option (Prop × AV)
  | [.agg [.int .i64 least, .int .i64 step, .bool pad, .int .i64 bad, .int .i64 odd], .imm (.int .u8) b], [] => some ((pad = false ∧ (4 ≤ least ∧ least ≤ 60000 ∧ 1 ≤ step ∧ step ≤ 64 ∧ bad ≠ 0 ∧ odd ≠ 0) ∧ b.length ≤ 140737488355328, .tup [.agg [.int .i64 (tlI b least step bad (tT b)), .imm (.int .u8) (tlR b least step bad)], .int .i64 (tlI b least step bad (tN b)), .int .i64 (tlE b least step bad)]))
  | _, _ => none
theorem snd_tlv_One : SoundS Tryz.prog 51 (RoF S_tlv_One).sum := by
  refine ro_fn Tryz.func51 ok_tlv_One (env_cons (s := RoF S_tlv_Shape_may) snd_tlv_Shape_may (env_cons (s := RwF S_cursor_New) snd_cursor_New (env_cons (s := RwF S_cursor_Cursor_Row) snd_cursor_Cursor_Row (env_cons (s := RoF S_cursor_Cursor_Err) snd_cursor_Cursor_Err (env_cons (s := RoF S_tlv_Shape_fits) snd_tlv_Shape_fits (env_cons (s := RoF S_tlv_Shape_zeros) snd_tlv_Shape_zeros (env_cons (s := RwF S_cursor_Cursor_Bytes) snd_cursor_Cursor_Bytes (env_cons (s := RoF S_cursor_Cursor_At) snd_cursor_Cursor_At (env_nil _))))))))) fun args objs p v e => ?_
  unfold S_tlv_One at e
  split at e
  · rename_i least step pad bad odd b
    cases e
    refine ⟨rfl, fun hw ho hp => ?_⟩
    change List Int at b
    have hb : ∀ x ∈ (b : List Int), (0 : Int) ≤ x ∧ x ≤ 255 := fun x hx => (hw _ (by simp : AV.imm (.int .u8) b ∈ _)).1 x hx
    clear hw ho
    obtain ⟨rfl, hs, hl⟩ := hp
    have hs' := hs
    obtain ⟨h1, h2, h3, h4', h5, h6⟩ := hs'
    have hT : 0 ≤ tT b ∧ tT b ≤ 65535 := num2_le (a := 0) hb
    have hN : 0 ≤ tN b ∧ tN b ≤ 65535 := num2_le (a := 2) hb
    obtain ⟨c1, c2, c3⟩ := cur22 (b := b) (sh := bad) (od := odd)
    have hm := tmod_bd (a := tN b) (s := step) hN.1 h3
    by_cases h4 : b.length < 4
    · rw [if_pos h4] at c1 c2 c3
      have hE : tlE b least step bad = bad := if_pos h4
      repeat' (intro t ht; first | (cases t <;> first | (cases ht; done) | ((try simp only [Bool.not_eq_eq_eq_not, Bool.not_true, Bool.not_false, Bool.and_eq_true, Bool.and_eq_false_iff, decide_eq_true_eq, decide_eq_false_iff_not] at ht); (try simp only [Int.toNat_natCast, dflt_int] at ht); (try (exfalso; first | contradiction | omega)))) | (refine ht ?_ ?_ <;> clear ht) | (refine ht.1 ?_ ?_ <;> clear ht) | (refine ht ?_; clear ht))
      all_goals (try simp only [c1, c2, c3, List.length_nil, not_true_eq_false] at *)
      all_goals first
        | exact True.intro
        | exact ⟨rfl, hs⟩
        | exact hs
        | omega
        | exact ⟨by omega, by omega, by omega⟩
        | (unfold tlI tlR; simp only [hE, if_neg h5]; first | done | exact ⟨rfl, by first | rfl | exact True.intro⟩ | exact ⟨trivial, trivial⟩)
        | (exfalso; omega)
        | trace_state
    · rw [if_neg h4] at c1 c2 c3
      have g0 : ∀ d : Int, [tT b, tN b].getD (Int.toNat 0) d = tT b := fun _ => rfl
      have g1 : ∀ d : Int, [tT b, tN b].getD (Int.toNat 1) d = tN b := fun _ => rfl
      have hok : 4 ≤ tN b → tN b ≤ b.length → takeE (tN b - 4) b 4 bad 0 = 0 ∧ takeL (tN b - 4) b 4 bad 0 = (b.take (tN b).toNat).drop 4 ∧ takeP (tN b - 4) b 4 bad 0 = tN b := fun q1 q2 => by
        have e : takeE (tN b - 4) b 4 bad 0 = 0 := by unfold takeE; rw [if_neg (by omega), if_neg (by omega)]
        refine ⟨e, ?_, ?_⟩
        · unfold takeL; rw [if_pos e]; congr 2; omega
        · unfold takeP; rw [if_pos e]; omega
      repeat' (intro t ht; first | (cases t <;> first | (cases ht; done) | ((try simp only [Bool.not_eq_eq_eq_not, Bool.not_true, Bool.not_false, Bool.and_eq_true, Bool.and_eq_false_iff, decide_eq_true_eq, decide_eq_false_iff_not] at ht); (try simp only [Int.toNat_natCast, dflt_int] at ht); (try (exfalso; first | contradiction | omega)))) | (refine ht ?_ ?_ <;> clear ht) | (refine ht.1 ?_ ?_ <;> clear ht) | (refine ht ?_; clear ht))
      all_goals (try simp only [c1, c2, c3, g0, g1, List.length_cons, List.length_nil, not_true_eq_false] at *)
      all_goals first
        | exact True.intro
        | exact ⟨True.intro, h3⟩
        | exact hs
        | omega
        | exact ⟨by omega, by omega, by omega⟩
        | exact ⟨by omega, by omega, by omega, h5⟩
        | ((try simp only [Int.toNat_natCast, dflt_int, decide_eq_true_eq, decide_eq_false_iff_not, Bool.not_eq_eq_eq_not, Bool.not_true, Bool.not_false, Bool.and_eq_true, Bool.and_eq_false_iff, min_i64, max_i64, min_u64, max_u64, min_u32, max_u32, min_u16, max_u16, min_u8, max_u8] at *); omega)
        | (exfalso; omega)
        | (have hE : tlE b least step bad = bad := by
             unfold tlE; rw [if_neg h4]
             first
               | exact if_pos (by omega)
               | (by_cases hq : tN b < least ∨ ¬ (tN b).tmod step = 0
                  · exact if_pos hq
                  · rw [if_neg hq]; exact if_pos (by omega))
           unfold tlI tlR; simp only [hE, if_neg h5]; first | done | exact ⟨rfl, by first | rfl | exact True.intro⟩ | exact ⟨trivial, trivial⟩)
        | (obtain ⟨q1, q2, q3⟩ := hok (by omega) (by omega)
           first
             | exact absurd q1 (by assumption)
             | (have hE : tlE b least step bad = 0 := by
                  unfold tlE; rw [if_neg h4, if_neg (by omega)]; exact if_neg (by omega)
                unfold tlI tlR; simp only [hE, q2, q3, if_true]; first | done | exact ⟨rfl, by first | rfl | exact True.intro⟩ | exact ⟨trivial, trivial⟩))
        | trace_state
  · cases e
end Go.Eng
