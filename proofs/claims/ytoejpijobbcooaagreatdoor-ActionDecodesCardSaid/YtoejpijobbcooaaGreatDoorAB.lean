/- Contracts of functions of the given program, told by plain Lean functions. No condition. -/
import Derived.Test.YtoejpijobbcooaaGreatDoorProg
import Derived.Test.YtoejpijobbcooaaGreatDoorEArg
import Derived.KernelRfl
import Derived.Test.YtoejpijobbcooaaGreatDoorA9
namespace Go.Eng
open Go.Proofs
set_option linter.unusedVariables false
set_option linter.unusedSimpArgs false
set_option maxRecDepth 100000
set_option maxHeartbeats 1000000
def S12a : List Int := [0, 0, 0, 16, 0, 0, 0, 3, 255, 255, 0, 0, 0, 0, 0, 0]
def S12b : List Int := [0, 25, 0, 16, 128, 0, 6, 6, 1, 2, 3, 4, 5, 6, 0, 1]
theorem s12a : acE S12a = 0 ∧ tT S12a = 0 ∧ tN S12a = 16 ∧ (getL (rowT 0) (bd S12a)).getD 0 0 = 3 ∧ (getL (rowT 0) (bd S12a)).getD 1 0 = 65535 ∧ (bd S12a).drop (sizeW (rowT 0)).toNat = [] ∧ acE S12b = 528 := by decide +kernel
theorem s12b : rightA (rightO 0 0 false 0 [] []) 0 3 65535 0 0 false 0 [] [] [] = true ∧ encA 0 3 65535 (encO 0 0 false 0 [] []) [] = S12a := by decide +kernel
def ir_l12_sure : IR :=
(.seq
(.keep []
(.reg (⟨some 0, .mov (.c (.kb false)), none⟩ ::
[])))
(.seq
(.reg (⟨some 10, .sliceAll (.int .u8) 16 [(0, 1, (.c (.int .u8 0))), (1, 1, (.c (.int .u8 0))), (2, 1, (.c (.int .u8 0))), (3, 1, (.c (.int .u8 16))), (4, 1, (.c (.int .u8 0))), (5, 1, (.c (.int .u8 0))), (6, 1, (.c (.int .u8 0))), (7, 1, (.c (.int .u8 3))), (8, 1, (.c (.int .u8 255))), (9, 1, (.c (.int .u8 255))), (10, 1, (.c (.int .u8 0))), (11, 1, (.c (.int .u8 0))), (12, 1, (.c (.int .u8 0))), (13, 1, (.c (.int .u8 0))), (14, 1, (.c (.int .u8 0))), (15, 1, (.c (.int .u8 0)))], none⟩ ::
⟨some 1, .mov (.t 10), none⟩ ::
[]))
(.seq
(.keep [1]
(.reg (⟨some 12, .mov (.t 1), none⟩ ::
⟨some 13, .call false (.f 15) [(.t 12)], none⟩ ::
⟨some 11, .mov (.t 13), none⟩ ::
⟨some 14, .extract (.t 11) 0, none⟩ ::
⟨some 15, .extract (.t 11) 1, none⟩ ::
⟨some 16, .extract (.t 11) 2, none⟩ ::
⟨some 2, .box [.int .i64 0, .int .u64 0, .int .u64 0, .int .i64 0, .int .i64 0, .kb false, .int .u64 0, .imm (.int .u8) [], .imm (.int .u8) [], .imm (.int .u8) []], none⟩ ::
⟨none, .store 10 (.t 2) (.t 14), none⟩ ::
⟨some 3, .mov (.t 15), none⟩ ::
⟨some 4, .mov (.t 16), none⟩ ::
[])))
(.seq
(.keep [1, 2, 3, 4]
(.reg (⟨some 18, .sliceAll (.int .u8) 16 [(0, 1, (.c (.int .u8 0))), (1, 1, (.c (.int .u8 25))), (2, 1, (.c (.int .u8 0))), (3, 1, (.c (.int .u8 16))), (4, 1, (.c (.int .u8 128))), (5, 1, (.c (.int .u8 0))), (6, 1, (.c (.int .u8 6))), (7, 1, (.c (.int .u8 6))), (8, 1, (.c (.int .u8 1))), (9, 1, (.c (.int .u8 2))), (10, 1, (.c (.int .u8 3))), (11, 1, (.c (.int .u8 4))), (12, 1, (.c (.int .u8 5))), (13, 1, (.c (.int .u8 6))), (14, 1, (.c (.int .u8 0))), (15, 1, (.c (.int .u8 1)))], none⟩ ::
⟨some 19, .call false (.f 15) [(.t 18)], none⟩ ::
⟨some 17, .mov (.t 19), none⟩ ::
⟨some 20, .extract (.t 17) 0, none⟩ ::
⟨some 21, .extract (.t 17) 1, none⟩ ::
⟨some 22, .extract (.t 17) 2, none⟩ ::
⟨some 5, .box [.int .i64 0, .int .u64 0, .int .u64 0, .int .i64 0, .int .i64 0, .kb false, .int .u64 0, .imm (.int .u8) [], .imm (.int .u8) [], .imm (.int .u8) []], none⟩ ::
⟨none, .store 10 (.t 5) (.t 20), none⟩ ::
⟨some 6, .mov (.t 21), none⟩ ::
⟨some 7, .mov (.t 22), none⟩ ::
[])))
(.seq
(.keep [1, 2, 3, 4, 7]
(.reg (⟨some 24, .load (some 10) (.t 2), none⟩ ::
⟨some 25, .call false (.f 10) [(.t 24)], none⟩ ::
⟨some 23, .mov (.t 25), none⟩ ::
⟨some 26, .extract (.t 23) 0, none⟩ ::
⟨some 27, .extract (.t 23) 1, none⟩ ::
⟨some 8, .mov (.t 26), none⟩ ::
⟨some 9, .mov (.t 27), none⟩ ::
[])))
(.seq
(.keep [1, 2, 3, 4, 7, 8, 9]
(.reg (⟨some 28, .mov (.t 4), none⟩ ::
⟨some 29, .bin .eql (.t 28) (.c (.int .i64 0)), none⟩ ::
⟨some 30, .mov (.t 29), none⟩ ::
⟨some 31, .mov (.t 3), some (30, true)⟩ ::
⟨some 32, .bin .eql (.t 31) (.c (.int .i64 16)), some (30, true)⟩ ::
⟨some 33, .pick (.t 30) (.t 32) (.c (.kb false)), none⟩ ::
⟨some 34, .mov (.t 33), none⟩ ::
⟨some 35, .fieldAddr 0 (.t 2), some (34, true)⟩ ::
⟨some 36, .load none (.t 35), some (34, true)⟩ ::
⟨some 37, .bin .eql (.t 36) (.c (.int .i64 0)), some (34, true)⟩ ::
⟨some 38, .pick (.t 34) (.t 37) (.c (.kb false)), none⟩ ::
⟨some 39, .mov (.t 38), none⟩ ::
⟨some 40, .fieldAddr 1 (.t 2), some (39, true)⟩ ::
⟨some 41, .load none (.t 40), some (39, true)⟩ ::
⟨some 42, .bin .eql (.t 41) (.c (.int .u64 3)), some (39, true)⟩ ::
⟨some 43, .pick (.t 39) (.t 42) (.c (.kb false)), none⟩ ::
⟨some 44, .mov (.t 43), none⟩ ::
⟨some 45, .fieldAddr 2 (.t 2), some (44, true)⟩ ::
⟨some 46, .load none (.t 45), some (44, true)⟩ ::
⟨some 47, .bin .eql (.t 46) (.c (.int .u64 65535)), some (44, true)⟩ ::
⟨some 48, .pick (.t 44) (.t 47) (.c (.kb false)), none⟩ ::
⟨some 49, .mov (.t 48), none⟩ ::
⟨some 50, .mov (.t 7), some (49, true)⟩ ::
⟨some 51, .bin .eql (.t 50) (.c (.int .i64 528)), some (49, true)⟩ ::
⟨some 52, .pick (.t 49) (.t 51) (.c (.kb false)), none⟩ ::
⟨some 53, .mov (.t 52), none⟩ ::
⟨some 54, .mov (.t 9), some (53, true)⟩ ::
⟨some 55, .bin .eql (.t 54) (.c (.int .i64 0)), some (53, true)⟩ ::
⟨some 56, .pick (.t 53) (.t 55) (.c (.kb false)), none⟩ ::
⟨some 57, .mov (.t 56), none⟩ ::
⟨some 58, .mov (.t 8), some (57, true)⟩ ::
⟨some 59, .mov (.t 1), some (57, true)⟩ ::
⟨some 60, .call false (.f 14) [(.t 58), (.t 59)], some (57, true)⟩ ::
⟨some 61, .pick (.t 57) (.t 60) (.c (.kb false)), none⟩ ::
⟨some 62, .mov (.t 61), none⟩ ::
⟨some 63, .load (some 10) (.t 2), some (62, true)⟩ ::
⟨some 64, .call false (.f 12) [(.t 63)], some (62, true)⟩ ::
⟨some 65, .pick (.t 62) (.t 64) (.c (.kb false)), none⟩ ::
⟨some 66, .mov (.t 65), none⟩ ::
⟨some 67, .pick (.t 66) (.c (.kb true)) (.c (.kb false)), none⟩ ::
⟨some 68, .mov (.t 67), none⟩ ::
⟨some 69, .pick (.t 68) (.c (.kb true)) (.c (.kb false)), none⟩ ::
⟨some 0, .mov (.t 69), none⟩ ::
[])))
.ret))))))
def rd_l12_sure : List RD := [.tmp 0 true none]
theorem ok_l12_sure : fnOk Tryz.prog Tryz.f9 ir_l12_sure rd_l12_sure = true := by kernel_rfl
def S_l12_sure : List AV → List Obj → Option (Prop × AV)
  | [], [] => some ((True, .bool true))
  | _, _ => none
theorem snd_l12_sure : SoundS Tryz.prog 9 (RoF S_l12_sure).sum := by
  refine ro_fn Tryz.func9 ok_l12_sure (env_cons (s := RoF S_action_Decode) snd_action_Decode (env_cons (s := RoF S_action_Encode) snd_action_Encode (env_cons (s := RoF S_r01_Bytes) snd_r01_Bytes (env_cons (s := RoF S_action_Right) snd_action_Right (env_nil _))))) fun args objs p v e => ?_
  unfold S_l12_sure at e
  split at e
  · cases e
    refine ⟨rfl, fun hw ho hp => ?_⟩
    clear hw ho
    obtain ⟨e1, e2, e3, e4, e5, e6, e7⟩ := s12a
    obtain ⟨e8, e9⟩ := s12b
    obtain ⟨n1, n2, n3, n4, n5, n6⟩ := ac_row e1 (by rw [e2]; decide)
    rw [e2] at n2 n6
    unfold S12a at *
    unfold S12b at *
    repeat' (intro t ht; first | (cases t <;> first | (cases ht; done) | ((try simp only [Bool.not_eq_eq_eq_not, Bool.not_true, Bool.not_false, Bool.and_eq_true, Bool.and_eq_false_iff, decide_eq_true_eq, decide_eq_false_iff_not] at ht); (try simp only [Int.toNat_natCast, dflt_int] at ht))) | (refine ht ?_ ?_ <;> clear ht) | (refine ht.1 ?_ ?_ <;> clear ht) | (refine ht ?_; clear ht))
    all_goals (try simp only [e1, n1, n2, n3, n4, n5, n6, e2, e3, e4, e5, e6, e7, e8, e9, if_true, reduceCtorEq, not_true_eq_false] at *)
    all_goals first
      | exact True.intro
      | exact ⟨by decide, by decide⟩
      | exact (by decide)
      | contradiction
      | exact ⟨rfl, by first | rfl | exact True.intro⟩
      | trace_state
  · cases e
theorem same_selfA (q a b c f : Int) (h : Bool) (x : Int) (v m d : List Int) : sameA q a b c f h x v m d q a b c f h x v m d = true := by unfold sameA; rw [same_self]; simp
theorem acV_le {y l : List Int} {n : Nat} (h : l.length ≤ n) : (acV y l).length ≤ n := by
  unfold acV; split
  · split
    · exact h
    · exact Nat.zero_le _
  · exact Nat.zero_le _
theorem decV_le (b : List Int) : (decV b).length ≤ b.length := by unfold decV; rw [List.length_drop, List.length_take]; omega
theorem decM_le (b : List Int) : (decM b).length ≤ b.length := by
  unfold decM; split
  · rw [List.length_drop, List.length_take]; omega
  · exact Nat.zero_le _
end Go.Eng
