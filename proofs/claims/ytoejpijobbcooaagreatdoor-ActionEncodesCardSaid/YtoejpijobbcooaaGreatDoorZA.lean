/- Contracts of functions of the given program, told by plain Lean functions. No condition. -/
import Derived.Test.YtoejpijobbcooaaGreatDoorProg
import Derived.Test.YtoejpijobbcooaaGreatDoorEArg
import Derived.KernelRfl
import Derived.Test.YtoejpijobbcooaaGreatDoorZ2
import Derived.Test.YtoejpijobbcooaaGreatDoorAB
namespace Go.Eng
open Go.Proofs
set_option linter.unusedVariables false
set_option linter.unusedSimpArgs false
set_option maxRecDepth 100000
set_option maxHeartbeats 1000000
def ir_l12_ActionEncodes : IR :=
(.seq
(.keep [0]
(.reg (⟨some 1, .boxv (.t 0), none⟩ ::
⟨some 2, .mov (.c (.kb false)), none⟩ ::
[])))
(.seq
(.seq
(.reg (⟨some 7, .load (some 10) (.t 1), none⟩ ::
⟨some 8, .call false (.f 8) [(.t 7)], none⟩ ::
⟨some 9, .un .not (.t 8), none⟩ ::
[]))
(.cond (.t 9)
(.seq
(.reg (⟨some 10, .call false (.f 9) [], none⟩ ::
⟨some 2, .mov (.t 10), none⟩ ::
[]))
.ret)
.skip))
(.seq
(.keep [1]
(.reg (⟨some 12, .load (some 10) (.t 1), none⟩ ::
⟨some 13, .call false (.f 10) [(.t 12)], none⟩ ::
⟨some 11, .mov (.t 13), none⟩ ::
⟨some 14, .extract (.t 11) 0, none⟩ ::
⟨some 15, .extract (.t 11) 1, none⟩ ::
⟨some 3, .mov (.t 14), none⟩ ::
⟨some 4, .mov (.t 15), none⟩ ::
[])))
(.seq
(.keep [1, 3, 4]
(.reg (⟨some 17, .load (some 10) (.t 1), none⟩ ::
⟨some 18, .call false (.f 11) [(.t 17)], none⟩ ::
⟨some 16, .mov (.t 18), none⟩ ::
⟨some 19, .extract (.t 16) 0, none⟩ ::
⟨some 20, .extract (.t 16) 1, none⟩ ::
⟨some 5, .mov (.t 19), none⟩ ::
⟨some 6, .mov (.t 20), none⟩ ::
[])))
(.seq
(.keep [1, 3, 4, 5, 6]
(.reg (⟨some 21, .load (some 10) (.t 1), none⟩ ::
⟨some 22, .call false (.f 12) [(.t 21)], none⟩ ::
⟨some 23, .mov (.t 6), none⟩ ::
⟨some 24, .bin .eql (.t 23) (.c (.int .i64 0)), none⟩ ::
⟨some 25, .eqb false (.t 22) (.t 24), none⟩ ::
⟨some 26, .mov (.t 25), none⟩ ::
⟨some 27, .load (some 10) (.t 1), some (26, true)⟩ ::
⟨some 28, .call false (.f 13) [(.t 27)], some (26, true)⟩ ::
⟨some 29, .mov (.t 5), some (26, true)⟩ ::
⟨some 30, .len (.t 29), some (26, true)⟩ ::
⟨some 31, .bin .eql (.t 28) (.t 30), some (26, true)⟩ ::
⟨some 32, .pick (.t 26) (.t 31) (.c (.kb false)), none⟩ ::
⟨some 33, .mov (.t 32), none⟩ ::
⟨some 34, .mov (.t 3), some (33, true)⟩ ::
⟨some 35, .mov (.t 5), some (33, true)⟩ ::
⟨some 36, .call false (.f 14) [(.t 34), (.t 35)], some (33, true)⟩ ::
⟨some 37, .pick (.t 33) (.t 36) (.c (.kb false)), none⟩ ::
⟨some 38, .mov (.t 37), none⟩ ::
⟨some 39, .mov (.t 4), some (38, true)⟩ ::
⟨some 40, .mov (.t 6), some (38, true)⟩ ::
⟨some 41, .bin .eql (.t 39) (.t 40), some (38, true)⟩ ::
⟨some 42, .pick (.t 38) (.t 41) (.c (.kb false)), none⟩ ::
⟨some 43, .mov (.t 42), none⟩ ::
⟨some 44, .call false (.f 9) [], some (43, true)⟩ ::
⟨some 45, .pick (.t 43) (.t 44) (.c (.kb false)), none⟩ ::
⟨some 2, .mov (.t 45), none⟩ ::
[])))
.ret)))))
def rd_l12_ActionEncodes : List RD := [.tmp 2 true none]
theorem ok_l12_ActionEncodes : fnOk Tryz.prog Tryz.f3 ir_l12_ActionEncodes rd_l12_ActionEncodes = true := by kernel_rfl
def S_l12_ActionEncodes : List AV → List Obj → Option (Prop × AV)
  | [.agg [.int .i64 q, .int .u64 a, .int .u64 b, .int .i64 c, .int .i64 f, .bool h, .int .u64 x, .imm (.int .u8) v, .imm (.int .u8) m, .imm (.int .u8) d]], [] => some ((True, .bool true))
  | _, _ => none
theorem snd_l12_ActionEncodes : SoundS Tryz.prog 3 (RoF S_l12_ActionEncodes).sum := by
  refine ro_fn Tryz.func3 ok_l12_ActionEncodes (env_cons (s := RoF S_r12_Few) snd_r12_Few (env_cons (s := RoF S_l12_sure) snd_l12_sure (env_cons (s := RoF S_action_Encode) snd_action_Encode (env_cons (s := RoF S_r12_Encode) snd_r12_Encode (env_cons (s := RoF S_action_Right) snd_action_Right (env_cons (s := RoF S_action_Size) snd_action_Size (env_cons (s := RoF S_r01_Bytes) snd_r01_Bytes (env_nil _)))))))) fun args objs p v e => ?_
  unfold S_l12_ActionEncodes at e
  split at e
  · rename_i q a b c f h x v m d
    cases e
    refine ⟨rfl, fun hw ho hp => ?_⟩
    change List Int at v
    change List Int at m
    change List Int at d
    have hx0 : 0 ≤ x := ((hw _ (List.mem_cons_self ..)) (.int .u64 x) (by simp)).1
    have hv0 : ∀ z ∈ (v : List Int), (0 : Int) ≤ z ∧ z ≤ 255 := fun z hz => ((hw _ (List.mem_cons_self ..)) (.imm (.int .u8) v) (by simp)).1 z hz
    have hm0 : ∀ z ∈ (m : List Int), (0 : Int) ≤ z ∧ z ≤ 255 := fun z hz => ((hw _ (List.mem_cons_self ..)) (.imm (.int .u8) m) (by simp)).1 z hz
    clear hw ho
    have hRA := rightA_ref (q := q) (a := a) (b := b) (c := c) (f := f) (h := h) (d := d) hx0 hv0 hm0
    by_cases hc : v.length ≤ 300 ∧ m.length ≤ 300 ∧ d.length ≤ 500
    · cases hr : rightA (rightO c f h x v m) q a b c f h x v m d with
      | false =>
        have hr2 := hRA.symm.trans hr
        have hsz : sizeA (rightO c f h x v m) (sizeO c f h x v m) q a b c f h x v m d = 0 := by unfold sizeA; rw [hr]; rfl
        repeat' (intro t ht; first | (cases t <;> first | (cases ht; done) | ((try simp only [Bool.not_eq_eq_eq_not, Bool.not_true, Bool.not_false, Bool.and_eq_true, Bool.and_eq_false_iff, decide_eq_true_eq, decide_eq_false_iff_not] at ht); (try simp only [Int.toNat_natCast, dflt_int] at ht))) | (refine ht ?_ ?_ <;> clear ht) | (refine ht.1 ?_ ?_ <;> clear ht) | (refine ht ?_; clear ht))
        all_goals (try simp only [hr, hr2, hsz, Bool.false_eq_true, if_false, List.length_nil] at *)
        all_goals first
          | exact True.intro
          | contradiction
          | omega
          | exact ⟨by omega, by omega, by omega⟩
          | exact ⟨by omega, by omega⟩
          | exact ⟨rfl, by first | rfl | exact True.intro⟩
          | (exfalso; omega)
          | ((try simp only [Int.toNat_natCast, dflt_int, decide_eq_true_eq, decide_eq_false_iff_not, Bool.not_eq_eq_eq_not, Bool.not_true, Bool.not_false, Bool.and_eq_true, Bool.and_eq_false_iff, min_i64, max_i64, min_u64, max_u64, min_u32, max_u32, min_u16, max_u16, min_u8, max_u8] at *); omega)
          | (exfalso; simp_all; done)
          | trace_state
      | true =>
        have hr2 := hRA.symm.trans hr
        obtain ⟨s0, s1, s2, s3⟩ := sizeA_len hr
        have hB := bodyA_ref hr
        have hEq : encA q a b (encO c f h x v m) d = encA q a b (refB c f h x v m) d := by unfold encA; rw [hB]
        have hlen : (encA q a b (refB c f h x v m) d).length = 4 + (bodyA q a b (encO c f h x v m) d).length := by
          rw [← hEq]
          have l2 : (bytesN q 2).length = 2 := by have := bytesN_len (n := q) (w := 2) (by decide); omega
          have l3 : (bytesN (4 + (bodyA q a b (encO c f h x v m) d).length) 2).length = 2 := by have := bytesN_len (n := (4 + (bodyA q a b (encO c f h x v m) d).length)) (w := 2) (by decide); omega
          unfold encA; simp only [List.length_append]; omega
        repeat' (intro t ht; first | (cases t <;> first | (cases ht; done) | ((try simp only [Bool.not_eq_eq_eq_not, Bool.not_true, Bool.not_false, Bool.and_eq_true, Bool.and_eq_false_iff, decide_eq_true_eq, decide_eq_false_iff_not] at ht); (try simp only [Int.toNat_natCast, dflt_int] at ht))) | (refine ht ?_ ?_ <;> clear ht) | (refine ht.1 ?_ ?_ <;> clear ht) | (refine ht ?_; clear ht))
        all_goals (try simp only [hr, hr2, if_true, s0, hEq, hlen] at *)
        all_goals first
          | exact True.intro
          | contradiction
          | omega
          | exact ⟨by omega, by omega, by omega⟩
          | exact ⟨by omega, by omega⟩
          | exact ⟨rfl, by first | rfl | exact True.intro⟩
          | (exfalso; omega)
          | ((try simp only [Int.toNat_natCast, dflt_int, decide_eq_true_eq, decide_eq_false_iff_not, Bool.not_eq_eq_eq_not, Bool.not_true, Bool.not_false, Bool.and_eq_true, Bool.and_eq_false_iff, min_i64, max_i64, min_u64, max_u64, min_u32, max_u32, min_u16, max_u16, min_u8, max_u8] at *); omega)
          | (exfalso; simp_all; done)
          | trace_state
    · repeat' (intro t ht; first | (cases t <;> first | (cases ht; done) | ((try simp only [Bool.not_eq_eq_eq_not, Bool.not_true, Bool.not_false, Bool.and_eq_true, Bool.and_eq_false_iff, decide_eq_true_eq, decide_eq_false_iff_not] at ht); (try simp only [Int.toNat_natCast, dflt_int] at ht); (try (exfalso; first | contradiction | omega)))) | (refine ht ?_ ?_ <;> clear ht) | (refine ht.1 ?_ ?_ <;> clear ht) | (refine ht ?_; clear ht))
      all_goals first
        | exact True.intro
        | exact ⟨rfl, rfl⟩
        | (exfalso; simp only [Bool.and_eq_true, decide_eq_true_eq] at *; omega)
        | trace_state
  · cases e
end Go.Eng
