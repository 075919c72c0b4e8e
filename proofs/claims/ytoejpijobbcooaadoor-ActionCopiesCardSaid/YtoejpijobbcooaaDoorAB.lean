/- Contracts of functions of the given program, told by plain Lean functions. No condition. -/
import Derived.Test.YtoejpijobbcooaaDoorProg
import Derived.Test.YtoejpijobbcooaaDoorESum
import Derived.KernelRfl
import Derived.Test.YtoejpijobbcooaaDoorA9
namespace Go.Eng
open Go.Proofs
set_option linter.unusedVariables false
set_option linter.unusedSimpArgs false
set_option maxRecDepth 100000
set_option maxHeartbeats 1000000
def S12a : List Int := [0, 0, 0, 16, 0, 0, 0, 3, 255, 255, 0, 0, 0, 0, 0, 0]
def S12b : List Int := [0, 25, 0, 16, 128, 0, 6, 6, 1, 2, 3, 4, 5, 6, 0, 1]
theorem s12a : acE S12a = 0 ∧ tT S12a = 0 ∧ tN S12a = 16 ∧ (getL (rowT 0) (bd S12a)).getD 0 0 = 3 ∧ (getL (rowT 0) (bd S12a)).getD 1 0 = 65535 ∧ (bd S12a).drop (sizeW (rowT 0)).toNat = [] ∧ acE S12b = 528 := by decide +kernel
theorem s12b : rightA (rightO 0 0 false 0 [] []) 0 3 65535 0 0 false 0 [] [] [] = true ∧ encA 0 3 65535 (encO 0 0 false 0 [] []) [] = S12a := by decide +kernel
def ir_l12_sure : IR :=
 (.seq
  (.keep []
  (.reg ((⟨(some 0), .mov (.c (.kb false)), none⟩ : IOper) ::
    [])))
  (.seq
   (.reg ((⟨(some 10), .sliceAll (.int .u8) 16 [(0, 1, (.c (.int .u8 0))), (1, 1, (.c (.int .u8 0))), (2, 1, (.c (.int .u8 0))), (3, 1, (.c (.int .u8 16))), (4, 1, (.c (.int .u8 0))), (5, 1, (.c (.int .u8 0))), (6, 1, (.c (.int .u8 0))), (7, 1, (.c (.int .u8 3))), (8, 1, (.c (.int .u8 255))), (9, 1, (.c (.int .u8 255))), (10, 1, (.c (.int .u8 0))), (11, 1, (.c (.int .u8 0))), (12, 1, (.c (.int .u8 0))), (13, 1, (.c (.int .u8 0))), (14, 1, (.c (.int .u8 0))), (15, 1, (.c (.int .u8 0)))], none⟩ : IOper) ::
     (⟨(some 1), .mov (.t 10), none⟩ : IOper) ::
     []))
   (.seq
    (.keep [1]
    (.reg ((⟨(some 12), .mov (.t 1), none⟩ : IOper) ::
      (⟨(some 13), .call false (.f 10) [(.t 12)], none⟩ : IOper) ::
      (⟨(some 11), .mov (.t 13), none⟩ : IOper) ::
      (⟨(some 14), .extract (.t 11) 0, none⟩ : IOper) ::
      (⟨(some 15), .extract (.t 11) 1, none⟩ : IOper) ::
      (⟨(some 16), .extract (.t 11) 2, none⟩ : IOper) ::
      (⟨(some 2), .box [.int .i64 0, .int .u64 0, .int .u64 0, .int .i64 0, .int .i64 0, .kb false, .int .u64 0, .imm (.int .u8) [], .imm (.int .u8) [], .imm (.int .u8) []], none⟩ : IOper) ::
      (⟨none, .store 10 (.t 2) (.t 14), none⟩ : IOper) ::
      (⟨(some 3), .mov (.t 15), none⟩ : IOper) ::
      (⟨(some 4), .mov (.t 16), none⟩ : IOper) ::
      [])))
    (.seq
     (.keep [1, 2, 3, 4]
     (.reg ((⟨(some 18), .sliceAll (.int .u8) 16 [(0, 1, (.c (.int .u8 0))), (1, 1, (.c (.int .u8 25))), (2, 1, (.c (.int .u8 0))), (3, 1, (.c (.int .u8 16))), (4, 1, (.c (.int .u8 128))), (5, 1, (.c (.int .u8 0))), (6, 1, (.c (.int .u8 6))), (7, 1, (.c (.int .u8 6))), (8, 1, (.c (.int .u8 1))), (9, 1, (.c (.int .u8 2))), (10, 1, (.c (.int .u8 3))), (11, 1, (.c (.int .u8 4))), (12, 1, (.c (.int .u8 5))), (13, 1, (.c (.int .u8 6))), (14, 1, (.c (.int .u8 0))), (15, 1, (.c (.int .u8 1)))], none⟩ : IOper) ::
       (⟨(some 19), .call false (.f 10) [(.t 18)], none⟩ : IOper) ::
       (⟨(some 17), .mov (.t 19), none⟩ : IOper) ::
       (⟨(some 20), .extract (.t 17) 0, none⟩ : IOper) ::
       (⟨(some 21), .extract (.t 17) 1, none⟩ : IOper) ::
       (⟨(some 22), .extract (.t 17) 2, none⟩ : IOper) ::
       (⟨(some 5), .box [.int .i64 0, .int .u64 0, .int .u64 0, .int .i64 0, .int .i64 0, .kb false, .int .u64 0, .imm (.int .u8) [], .imm (.int .u8) [], .imm (.int .u8) []], none⟩ : IOper) ::
       (⟨none, .store 10 (.t 5) (.t 20), none⟩ : IOper) ::
       (⟨(some 6), .mov (.t 21), none⟩ : IOper) ::
       (⟨(some 7), .mov (.t 22), none⟩ : IOper) ::
       [])))
     (.seq
      (.keep [1, 2, 3, 4, 7]
      (.reg ((⟨(some 24), .load (some 10) (.t 2), none⟩ : IOper) ::
        (⟨(some 25), .call false (.f 9) [(.t 24)], none⟩ : IOper) ::
        (⟨(some 23), .mov (.t 25), none⟩ : IOper) ::
        (⟨(some 26), .extract (.t 23) 0, none⟩ : IOper) ::
        (⟨(some 27), .extract (.t 23) 1, none⟩ : IOper) ::
        (⟨(some 8), .mov (.t 26), none⟩ : IOper) ::
        (⟨(some 9), .mov (.t 27), none⟩ : IOper) ::
        [])))
      (.seq
       (.keep [1, 2, 3, 4, 7, 8, 9]
       (.reg ((⟨(some 28), .mov (.t 4), none⟩ : IOper) ::
         (⟨(some 29), .bin .eql (.t 28) (.c (.int .i64 0)), none⟩ : IOper) ::
         (⟨(some 30), .mov (.t 29), none⟩ : IOper) ::
         (⟨(some 31), .mov (.t 3), (some (30, true))⟩ : IOper) ::
         (⟨(some 32), .bin .eql (.t 31) (.c (.int .i64 16)), (some (30, true))⟩ : IOper) ::
         (⟨(some 33), .pick (.t 30) (.t 32) (.c (.kb false)), none⟩ : IOper) ::
         (⟨(some 34), .mov (.t 33), none⟩ : IOper) ::
         (⟨(some 35), .fieldAddr 0 (.t 2), (some (34, true))⟩ : IOper) ::
         (⟨(some 36), .load none (.t 35), (some (34, true))⟩ : IOper) ::
         (⟨(some 37), .bin .eql (.t 36) (.c (.int .i64 0)), (some (34, true))⟩ : IOper) ::
         (⟨(some 38), .pick (.t 34) (.t 37) (.c (.kb false)), none⟩ : IOper) ::
         (⟨(some 39), .mov (.t 38), none⟩ : IOper) ::
         (⟨(some 40), .fieldAddr 1 (.t 2), (some (39, true))⟩ : IOper) ::
         (⟨(some 41), .load none (.t 40), (some (39, true))⟩ : IOper) ::
         (⟨(some 42), .bin .eql (.t 41) (.c (.int .u64 3)), (some (39, true))⟩ : IOper) ::
         (⟨(some 43), .pick (.t 39) (.t 42) (.c (.kb false)), none⟩ : IOper) ::
         (⟨(some 44), .mov (.t 43), none⟩ : IOper) ::
         (⟨(some 45), .fieldAddr 2 (.t 2), (some (44, true))⟩ : IOper) ::
         (⟨(some 46), .load none (.t 45), (some (44, true))⟩ : IOper) ::
         (⟨(some 47), .bin .eql (.t 46) (.c (.int .u64 65535)), (some (44, true))⟩ : IOper) ::
         (⟨(some 48), .pick (.t 44) (.t 47) (.c (.kb false)), none⟩ : IOper) ::
         (⟨(some 49), .mov (.t 48), none⟩ : IOper) ::
         (⟨(some 50), .mov (.t 7), (some (49, true))⟩ : IOper) ::
         (⟨(some 51), .bin .eql (.t 50) (.c (.int .i64 528)), (some (49, true))⟩ : IOper) ::
         (⟨(some 52), .pick (.t 49) (.t 51) (.c (.kb false)), none⟩ : IOper) ::
         (⟨(some 53), .mov (.t 52), none⟩ : IOper) ::
         (⟨(some 54), .mov (.t 9), (some (53, true))⟩ : IOper) ::
         (⟨(some 55), .bin .eql (.t 54) (.c (.int .i64 0)), (some (53, true))⟩ : IOper) ::
         (⟨(some 56), .pick (.t 53) (.t 55) (.c (.kb false)), none⟩ : IOper) ::
         (⟨(some 57), .mov (.t 56), none⟩ : IOper) ::
         (⟨(some 58), .mov (.t 8), (some (57, true))⟩ : IOper) ::
         (⟨(some 59), .mov (.t 1), (some (57, true))⟩ : IOper) ::
         (⟨(some 60), .call false (.f 14) [(.t 58), (.t 59)], (some (57, true))⟩ : IOper) ::
         (⟨(some 61), .pick (.t 57) (.t 60) (.c (.kb false)), none⟩ : IOper) ::
         (⟨(some 62), .mov (.t 61), none⟩ : IOper) ::
         (⟨(some 63), .load (some 10) (.t 2), (some (62, true))⟩ : IOper) ::
         (⟨(some 64), .call false (.f 13) [(.t 63)], (some (62, true))⟩ : IOper) ::
         (⟨(some 65), .pick (.t 62) (.t 64) (.c (.kb false)), none⟩ : IOper) ::
         (⟨(some 66), .mov (.t 65), none⟩ : IOper) ::
         (⟨(some 67), .pick (.t 66) (.c (.kb true)) (.c (.kb false)), none⟩ : IOper) ::
         (⟨(some 68), .mov (.t 67), none⟩ : IOper) ::
         (⟨(some 69), .pick (.t 68) (.c (.kb true)) (.c (.kb false)), none⟩ : IOper) ::
         (⟨(some 0), .mov (.t 69), none⟩ : IOper) ::
         [])))
       .ret))))))
def rd_l12_sure : List RD := [.tmp 0 true none]
theorem ok_l12_sure : fnOk Tryd.prog Tryd.f8 ir_l12_sure rd_l12_sure = true := by kernel_rfl
def S_l12_sure : List AV → List Obj → Option (Prop × AV)
  | [], [] => some ((True, .bool true))
  | _, _ => none
theorem snd_l12_sure : SoundS Tryd.prog 8 (RoF S_l12_sure).sum := by
  refine ro_fn Tryd.func8 ok_l12_sure (env_cons (s := RoF S_action_Decode) snd_action_Decode (env_cons (s := RoF S_action_Encode) snd_action_Encode (env_cons (s := RoF S_r01_Bytes) snd_r01_Bytes (env_cons (s := RoF S_action_Right) snd_action_Right (env_nil _))))) fun args objs p v e => ?_
  unfold S_l12_sure at e
  split at e
  · cases e
    refine ⟨rfl, fun hw ho hp => ?_⟩
    clear hw ho
    obtain ⟨e1, e2, e3, e4, e5, e6, e7⟩ := s12a
    obtain ⟨e8, e9⟩ := s12b
    obtain ⟨n1, n2, n3, n4, n5, n6⟩ := ac_row e1 (by rw [e2]; decide)
    rw [e2] at n2 n6
    unfold S12a at *
    unfold S12b at *
    repeat' (intro t ht; first | (cases t <;> first | (cases ht; done) | ((try simp only [Bool.not_eq_eq_eq_not, Bool.not_true, Bool.not_false, Bool.and_eq_true, Bool.and_eq_false_iff, decide_eq_true_eq, decide_eq_false_iff_not] at ht); (try simp only [Int.toNat_natCast, dflt_int] at ht))) | (refine ht ?_ ?_ <;> clear ht) | (refine ht.1 ?_ ?_ <;> clear ht) | (refine ht ?_; clear ht))
    all_goals (try simp only [e1, n1, n2, n3, n4, n5, n6, e2, e3, e4, e5, e6, e7, e8, e9, if_true, reduceCtorEq, not_true_eq_false] at *)
    all_goals first
      | exact True.intro
      | exact ⟨by decide, by decide⟩
      | exact (by decide)
      | contradiction
      | exact ⟨rfl, by first | rfl | exact True.intro⟩
      | trace_state
  · cases e
theorem same_selfA (q a b c f : Int) (h : Bool) (x : Int) (v m d : List Int) : sameA q a b c f h x v m d q a b c f h x v m d = true := by unfold sameA; rw [same_self]; simp
theorem acV_le {y l : List Int} {n : Nat} (h : l.length ≤ n) : (acV y l).length ≤ n := by
  unfold acV; split
  · split
    · exact h
    · exact Nat.zero_le _
  · exact Nat.zero_le _
theorem decV_le (b : List Int) : (decV b).length ≤ b.length := by unfold decV; rw [List.length_drop, List.length_take]; omega
theorem decM_le (b : List Int) : (decM b).length ≤ b.length := by
  unfold decM; split
  · rw [List.length_drop, List.length_take]; omega
  · exact Nat.zero_le _
def ir_l12_ActionBack : IR :=
 (.seq
  (.keep [0, 1]
  (.reg ((⟨(some 2), .boxv (.t 0), none⟩ : IOper) ::
    (⟨(some 4), .mov (.c (.kb false)), none⟩ : IOper) ::
    [])))
  (.seq
   (.seq
    (.keep [1, 2]
    (.reg ((⟨(some 18), .load (some 10) (.t 2), none⟩ : IOper) ::
      (⟨(some 19), .call false (.f 7) [(.t 18)], none⟩ : IOper) ::
      (⟨(some 20), .un .not (.t 19), none⟩ : IOper) ::
      (⟨(some 21), .mov (.t 20), none⟩ : IOper) ::
      (⟨(some 22), .mov (.t 1), (some (21, false))⟩ : IOper) ::
      (⟨(some 23), .len (.t 22), (some (21, false))⟩ : IOper) ::
      (⟨(some 24), .bin .gtr (.t 23) (.c (.int .i64 600)), (some (21, false))⟩ : IOper) ::
      (⟨(some 25), .pick (.t 21) (.c (.kb true)) (.t 24), none⟩ : IOper) ::
      [])))
    (.cond (.t 25)
     (.seq
      (.keep []
      (.reg ((⟨(some 26), .call false (.f 8) [], none⟩ : IOper) ::
        (⟨(some 4), .mov (.t 26), none⟩ : IOper) ::
        [])))
      .ret)
     .skip))
   (.seq
    (.seq
     (.keep [1, 2]
     (.reg ((⟨(some 28), .load (some 10) (.t 2), none⟩ : IOper) ::
       (⟨(some 29), .call false (.f 9) [(.t 28)], none⟩ : IOper) ::
       (⟨(some 27), .mov (.t 29), none⟩ : IOper) ::
       (⟨(some 30), .extract (.t 27) 0, none⟩ : IOper) ::
       (⟨(some 31), .extract (.t 27) 1, none⟩ : IOper) ::
       (⟨(some 5), .mov (.t 30), none⟩ : IOper) ::
       (⟨(some 6), .mov (.t 31), none⟩ : IOper) ::
       [])))
     (.seq
      (.keep [1, 2, 5, 6]
      (.reg ((⟨(some 32), .mov (.t 6), none⟩ : IOper) ::
        (⟨(some 33), .bin .eql (.t 32) (.c (.int .i64 0)), none⟩ : IOper) ::
        [])))
      (.cond (.t 33)
       (.seq
        (.keep [1, 2, 5]
        (.reg ((⟨(some 35), .slice0 (.int .u8), none⟩ : IOper) ::
          (⟨(some 36), .mov (.t 5), none⟩ : IOper) ::
          (⟨(some 37), .append (.int .u8) 1 (.t 35) (.t 36), none⟩ : IOper) ::
          (⟨(some 38), .mov (.t 1), none⟩ : IOper) ::
          (⟨(some 39), .append (.int .u8) 1 (.t 37) (.t 38), none⟩ : IOper) ::
          (⟨(some 40), .call false (.f 10) [(.t 39)], none⟩ : IOper) ::
          (⟨(some 34), .mov (.t 40), none⟩ : IOper) ::
          (⟨(some 41), .extract (.t 34) 0, none⟩ : IOper) ::
          (⟨(some 42), .extract (.t 34) 1, none⟩ : IOper) ::
          (⟨(some 43), .extract (.t 34) 2, none⟩ : IOper) ::
          (⟨(some 7), .box [.int .i64 0, .int .u64 0, .int .u64 0, .int .i64 0, .int .i64 0, .kb false, .int .u64 0, .imm (.int .u8) [], .imm (.int .u8) [], .imm (.int .u8) []], none⟩ : IOper) ::
          (⟨none, .store 10 (.t 7) (.t 41), none⟩ : IOper) ::
          (⟨(some 8), .mov (.t 42), none⟩ : IOper) ::
          (⟨(some 9), .mov (.t 43), none⟩ : IOper) ::
          [])))
        (.seq
         (.seq
          (.keep [1, 2, 5, 7, 8, 9]
          (.reg ((⟨(some 44), .mov (.t 9), none⟩ : IOper) ::
            (⟨(some 45), .bin .neq (.t 44) (.c (.int .i64 0)), none⟩ : IOper) ::
            (⟨(some 46), .mov (.t 45), none⟩ : IOper) ::
            (⟨(some 47), .mov (.t 8), (some (46, false))⟩ : IOper) ::
            (⟨(some 48), .mov (.t 5), (some (46, false))⟩ : IOper) ::
            (⟨(some 49), .len (.t 48), (some (46, false))⟩ : IOper) ::
            (⟨(some 50), .bin .neq (.t 47) (.t 49), (some (46, false))⟩ : IOper) ::
            (⟨(some 51), .pick (.t 46) (.c (.kb true)) (.t 50), none⟩ : IOper) ::
            (⟨(some 52), .mov (.t 51), none⟩ : IOper) ::
            (⟨(some 53), .mov (.t 8), (some (52, false))⟩ : IOper) ::
            (⟨(some 54), .bin .rem (.t 53) (.c (.int .i64 8)), (some (52, false))⟩ : IOper) ::
            (⟨(some 55), .bin .neq (.t 54) (.c (.int .i64 0)), (some (52, false))⟩ : IOper) ::
            (⟨(some 56), .pick (.t 52) (.c (.kb true)) (.t 55), none⟩ : IOper) ::
            (⟨(some 57), .mov (.t 56), none⟩ : IOper) ::
            (⟨(some 58), .mov (.t 8), (some (57, false))⟩ : IOper) ::
            (⟨(some 59), .load (some 10) (.t 2), (some (57, false))⟩ : IOper) ::
            (⟨(some 60), .call false (.f 11) [(.t 59)], (some (57, false))⟩ : IOper) ::
            (⟨(some 61), .bin .neq (.t 58) (.t 60), (some (57, false))⟩ : IOper) ::
            (⟨(some 62), .pick (.t 57) (.c (.kb true)) (.t 61), none⟩ : IOper) ::
            (⟨(some 63), .mov (.t 62), none⟩ : IOper) ::
            (⟨(some 64), .load (some 10) (.t 2), (some (63, false))⟩ : IOper) ::
            (⟨(some 65), .load (some 10) (.t 7), (some (63, false))⟩ : IOper) ::
            (⟨(some 66), .call false (.f 12) [(.t 64), (.t 65)], (some (63, false))⟩ : IOper) ::
            (⟨(some 67), .un .not (.t 66), (some (63, false))⟩ : IOper) ::
            (⟨(some 68), .pick (.t 63) (.c (.kb true)) (.t 67), none⟩ : IOper) ::
            [])))
          (.cond (.t 68)
           (.seq
            (.keep []
            (.reg ((⟨(some 4), .mov (.c (.kb false)), none⟩ : IOper) ::
              [])))
            .ret)
           .skip))
         (.seq
          (.keep [1, 5]
          (.reg ((⟨(some 70), .mov (.t 5), none⟩ : IOper) ::
            (⟨(some 71), .mov (.t 5), none⟩ : IOper) ::
            (⟨(some 72), .len (.t 71), none⟩ : IOper) ::
            (⟨(some 73), .bin .sub (.t 72) (.c (.int .i64 1)), none⟩ : IOper) ::
            (⟨(some 74), .slice 1 (.t 70) none (some (.t 73)) none, none⟩ : IOper) ::
            (⟨(some 75), .call false (.f 10) [(.t 74)], none⟩ : IOper) ::
            (⟨(some 69), .mov (.t 75), none⟩ : IOper) ::
            (⟨(some 76), .extract (.t 69) 0, none⟩ : IOper) ::
            (⟨(some 77), .extract (.t 69) 1, none⟩ : IOper) ::
            (⟨(some 78), .extract (.t 69) 2, none⟩ : IOper) ::
            (⟨(some 10), .box [.int .i64 0, .int .u64 0, .int .u64 0, .int .i64 0, .int .i64 0, .kb false, .int .u64 0, .imm (.int .u8) [], .imm (.int .u8) [], .imm (.int .u8) []], none⟩ : IOper) ::
            (⟨none, .store 10 (.t 10) (.t 76), none⟩ : IOper) ::
            (⟨(some 11), .mov (.t 77), none⟩ : IOper) ::
            (⟨(some 12), .mov (.t 78), none⟩ : IOper) ::
            [])))
          (.seq
           (.keep [1, 12]
           (.reg ((⟨(some 79), .mov (.t 12), none⟩ : IOper) ::
             (⟨(some 80), .bin .neq (.t 79) (.c (.int .i64 514)), none⟩ : IOper) ::
             [])))
           (.cond (.t 80)
            (.seq
             (.reg ((⟨(some 4), .mov (.c (.kb false)), none⟩ : IOper) ::
               []))
             .ret)
            .skip)))))
       .skip)))
    (.seq
     (.keep [1]
     (.reg ((⟨(some 82), .mov (.t 1), none⟩ : IOper) ::
       (⟨(some 83), .call false (.f 10) [(.t 82)], none⟩ : IOper) ::
       (⟨(some 81), .mov (.t 83), none⟩ : IOper) ::
       (⟨(some 84), .extract (.t 81) 0, none⟩ : IOper) ::
       (⟨(some 85), .extract (.t 81) 1, none⟩ : IOper) ::
       (⟨(some 86), .extract (.t 81) 2, none⟩ : IOper) ::
       (⟨(some 13), .box [.int .i64 0, .int .u64 0, .int .u64 0, .int .i64 0, .int .i64 0, .kb false, .int .u64 0, .imm (.int .u8) [], .imm (.int .u8) [], .imm (.int .u8) []], none⟩ : IOper) ::
       (⟨none, .store 10 (.t 13) (.t 84), none⟩ : IOper) ::
       (⟨(some 14), .mov (.t 85), none⟩ : IOper) ::
       (⟨(some 15), .mov (.t 86), none⟩ : IOper) ::
       [])))
     (.seq
      (.seq
       (.keep [1, 13, 14, 15]
       (.reg ((⟨(some 87), .mov (.t 15), none⟩ : IOper) ::
         (⟨(some 88), .bin .neq (.t 87) (.c (.int .i64 0)), none⟩ : IOper) ::
         [])))
       (.cond (.t 88)
        (.seq
         (.keep [13, 14]
         (.reg ((⟨(some 89), .mov (.t 14), none⟩ : IOper) ::
           (⟨(some 90), .bin .eql (.t 89) (.c (.int .i64 0)), none⟩ : IOper) ::
           (⟨(some 91), .mov (.t 90), none⟩ : IOper) ::
           (⟨(some 92), .fieldAddr 0 (.t 13), (some (91, true))⟩ : IOper) ::
           (⟨(some 93), .load none (.t 92), (some (91, true))⟩ : IOper) ::
           (⟨(some 94), .bin .eql (.t 93) (.c (.int .i64 0)), (some (91, true))⟩ : IOper) ::
           (⟨(some 95), .pick (.t 91) (.t 94) (.c (.kb false)), none⟩ : IOper) ::
           (⟨(some 96), .mov (.t 95), none⟩ : IOper) ::
           (⟨(some 97), .fieldAddr 1 (.t 13), (some (96, true))⟩ : IOper) ::
           (⟨(some 98), .load none (.t 97), (some (96, true))⟩ : IOper) ::
           (⟨(some 99), .bin .eql (.t 98) (.c (.int .u64 0)), (some (96, true))⟩ : IOper) ::
           (⟨(some 100), .pick (.t 96) (.t 99) (.c (.kb false)), none⟩ : IOper) ::
           (⟨(some 101), .mov (.t 100), none⟩ : IOper) ::
           (⟨(some 102), .call false (.f 8) [], (some (101, true))⟩ : IOper) ::
           (⟨(some 103), .pick (.t 101) (.t 102) (.c (.kb false)), none⟩ : IOper) ::
           (⟨(some 4), .mov (.t 103), none⟩ : IOper) ::
           [])))
         .ret)
        .skip))
      (.seq
       (.keep [1, 13, 14]
       (.reg ((⟨(some 105), .load (some 10) (.t 13), none⟩ : IOper) ::
         (⟨(some 106), .call false (.f 9) [(.t 105)], none⟩ : IOper) ::
         (⟨(some 104), .mov (.t 106), none⟩ : IOper) ::
         (⟨(some 107), .extract (.t 104) 0, none⟩ : IOper) ::
         (⟨(some 108), .extract (.t 104) 1, none⟩ : IOper) ::
         (⟨(some 16), .mov (.t 107), none⟩ : IOper) ::
         (⟨(some 17), .mov (.t 108), none⟩ : IOper) ::
         [])))
       (.seq
        (.keep [1, 13, 14, 16, 17]
        (.reg ((⟨(some 109), .mov (.t 17), none⟩ : IOper) ::
          (⟨(some 110), .bin .eql (.t 109) (.c (.int .i64 0)), none⟩ : IOper) ::
          (⟨(some 111), .mov (.t 110), none⟩ : IOper) ::
          (⟨(some 112), .load (some 10) (.t 13), (some (111, true))⟩ : IOper) ::
          (⟨(some 113), .call false (.f 13) [(.t 112)], (some (111, true))⟩ : IOper) ::
          (⟨(some 114), .pick (.t 111) (.t 113) (.c (.kb false)), none⟩ : IOper) ::
          (⟨(some 115), .mov (.t 114), none⟩ : IOper) ::
          (⟨(some 116), .mov (.t 14), (some (115, true))⟩ : IOper) ::
          (⟨(some 117), .mov (.t 1), (some (115, true))⟩ : IOper) ::
          (⟨(some 118), .len (.t 117), (some (115, true))⟩ : IOper) ::
          (⟨(some 119), .bin .leq (.t 116) (.t 118), (some (115, true))⟩ : IOper) ::
          (⟨(some 120), .pick (.t 115) (.t 119) (.c (.kb false)), none⟩ : IOper) ::
          (⟨(some 121), .mov (.t 120), none⟩ : IOper) ::
          (⟨(some 122), .mov (.t 16), (some (121, true))⟩ : IOper) ::
          (⟨(some 123), .mov (.t 1), (some (121, true))⟩ : IOper) ::
          (⟨(some 124), .mov (.t 14), (some (121, true))⟩ : IOper) ::
          (⟨(some 125), .slice 1 (.t 123) none (some (.t 124)) none, (some (121, true))⟩ : IOper) ::
          (⟨(some 126), .call false (.f 14) [(.t 122), (.t 125)], (some (121, true))⟩ : IOper) ::
          (⟨(some 127), .pick (.t 121) (.t 126) (.c (.kb false)), none⟩ : IOper) ::
          (⟨(some 128), .mov (.t 127), none⟩ : IOper) ::
          (⟨(some 129), .call false (.f 8) [], (some (128, true))⟩ : IOper) ::
          (⟨(some 130), .pick (.t 128) (.t 129) (.c (.kb false)), none⟩ : IOper) ::
          (⟨(some 4), .mov (.t 130), none⟩ : IOper) ::
          [])))
        .ret)))))))
def rd_l12_ActionBack : List RD := [.tmp 4 true none]
theorem ok_l12_ActionBack : fnOk Tryd.prog Tryd.f3 ir_l12_ActionBack rd_l12_ActionBack = true := by kernel_rfl
def S_l12_ActionBack : List AV → List Obj → Option (Prop × AV)
  | [.agg [.int .i64 q, .int .u64 a, .int .u64 b, .int .i64 c, .int .i64 f, .bool h, .int .u64 x, .imm (.int .u8) v, .imm (.int .u8) m, .imm (.int .u8) d], .imm (.int .u8) y], [] => some ((True, .bool true))
  | _, _ => none
theorem snd_l12_ActionBack : SoundS Tryd.prog 3 (RoF S_l12_ActionBack).sum := by
  refine ro_fn Tryd.func3 ok_l12_ActionBack (env_cons (s := RoF S_r12_Few) snd_r12_Few (env_cons (s := RoF S_l12_sure) snd_l12_sure (env_cons (s := RoF S_action_Encode) snd_action_Encode (env_cons (s := RoF S_action_Decode) snd_action_Decode (env_cons (s := RoF S_action_Size) snd_action_Size (env_cons (s := RoF S_r12_Same) snd_r12_Same (env_cons (s := RoF S_action_Right) snd_action_Right (env_cons (s := RoF S_r01_Bytes) snd_r01_Bytes (env_nil _))))))))) fun args objs p v e => ?_
  unfold S_l12_ActionBack at e
  split at e
  · rename_i q a b c f h x v m d y
    cases e
    refine ⟨rfl, fun hw ho hp => ?_⟩
    change List Int at v
    change List Int at m
    change List Int at d
    change List Int at y
    have hyb : ∀ z ∈ (y : List Int), (0 : Int) ≤ z ∧ z ≤ 255 := fun z hz => (hw (.imm (.int .u8) y) (by simp)).1 z hz
    have hyl : y.length ≤ maxLen := (hw (.imm (.int .u8) y) (by simp)).2
    have ha0 : 0 ≤ a ∧ a ≤ 18446744073709551615 := ((hw _ (List.mem_cons_self ..)) (.int .u64 a) (by simp))
    have hb0 : 0 ≤ b ∧ b ≤ 18446744073709551615 := ((hw _ (List.mem_cons_self ..)) (.int .u64 b) (by simp))
    have hx0 : 0 ≤ x := ((hw _ (List.mem_cons_self ..)) (.int .u64 x) (by simp)).1
    unfold maxLen at hyl
    clear hw ho
    have hbl := bd_le hyb
    have lV : (acV y (decV (bd y))).length ≤ 1000000 := acV_le (by have := decV_le (bd y); omega)
    have lM : (acV y (decM (bd y))).length ≤ 1000000 := acV_le (by have := decM_le (bd y); omega)
    have kB := fun h0 => ac_bad (b := y) h0
    have kI : acE y = 0 → ∀ x, acI y x = x := fun h0 x => if_pos h0
    have kD := fun h0 => ac_dec hyb h0
    by_cases hc : (v.length ≤ 300 ∧ m.length ≤ 300 ∧ d.length ≤ 500) ∧ y.length ≤ 600
    · obtain ⟨⟨f1, f2, f3⟩, f4⟩ := hc
      cases hr : rightA (rightO c f h x v m) q a b c f h x v m d with
      | false =>
        by_cases h0 : acE y = 0
        · obtain ⟨D1, D2, D3, D4⟩ := kD h0
          have hI := kI h0
          repeat' (intro t ht; first | (cases t <;> first | (cases ht; done) | ((try simp only [Bool.not_eq_eq_eq_not, Bool.not_true, Bool.not_false, Bool.and_eq_true, Bool.and_eq_false_iff, decide_eq_true_eq, decide_eq_false_iff_not] at ht); (try simp only [Int.toNat_natCast, dflt_int] at ht))) | (refine ht ?_ ?_ <;> clear ht) | (refine ht.1 ?_ ?_ <;> clear ht) | (refine ht ?_; clear ht))
          all_goals (try simp only [hr, if_true, if_false, Bool.false_eq_true, reduceCtorEq, cast_rfl, List.nil_append, not_true_eq_false, not_false_eq_true, h0, hI, D1, D2] at *)
          all_goals first
            | exact True.intro
            | contradiction
            | exact ⟨lV, lM⟩
            | omega
            | (constructor <;> omega)
            | (exfalso; omega)
            | (simp only [min_i64, max_i64]; omega)
            | exact ⟨rfl, by first | rfl | exact True.intro⟩
            | (simp only [List.length_append, List.length_nil, List.length_take] at *; omega)
            | trace_state
        · obtain ⟨n1, n2, n3, n4, n5, n6⟩ := kB h0
          repeat' (intro t ht; first | (cases t <;> first | (cases ht; done) | ((try simp only [Bool.not_eq_eq_eq_not, Bool.not_true, Bool.not_false, Bool.and_eq_true, Bool.and_eq_false_iff, decide_eq_true_eq, decide_eq_false_iff_not] at ht); (try simp only [Int.toNat_natCast, dflt_int] at ht))) | (refine ht ?_ ?_ <;> clear ht) | (refine ht.1 ?_ ?_ <;> clear ht) | (refine ht ?_; clear ht))
          all_goals (try simp only [hr, if_true, if_false, Bool.false_eq_true, reduceCtorEq, cast_rfl, List.nil_append, not_true_eq_false, not_false_eq_true, h0, n1, n2] at *)
          all_goals first
            | exact True.intro
            | contradiction
            | omega
            | (constructor <;> omega)
            | (exfalso; omega)
            | (simp only [min_i64, max_i64]; omega)
            | exact ⟨rfl, by first | rfl | exact True.intro⟩
            | trace_state
      | true =>
        obtain ⟨E1, E2, E3, E4, E5, E6, E7, E8, E9, E10, E11, E12⟩ := ac_enc (rest := y) hr ha0 hb0 hx0
        have EI : ∀ z, acI (encA q a b (encO c f h x v m) d ++ y) z = z := fun z => if_pos E1
        obtain ⟨s0, s1, s2, s3⟩ := sizeA_len hr
        have hself := same_selfA q a b c f h x v m d
        have hcut := ac_cut hr
        have hlen : (encA q a b (encO c f h x v m) d).length = 4 + (bodyA q a b (encO c f h x v m) d).length := by
          have l2 : (bytesN q 2).length = 2 := by have := bytesN_len (n := q) (w := 2) (by decide); omega
          have l3 : (bytesN (4 + (bodyA q a b (encO c f h x v m) d).length) 2).length = 2 := by have := bytesN_len (n := (4 + (bodyA q a b (encO c f h x v m) d).length)) (w := 2) (by decide); omega
          unfold encA; simp only [List.length_append]; omega
        obtain ⟨E, hE⟩ : ∃ E, encA q a b (encO c f h x v m) d = E := ⟨_, rfl⟩
        rw [hE] at E1 E2 E3 E4 E5 E6 E7 E8 E9 E10 E11 E12 hcut hlen
        simp only [hE] at EI
        have hct : E.take ((E.length : Int) - 1).toNat = E.take (E.length - 1) := by rw [show ((E.length : Int) - 1).toNat = E.length - 1 by omega]
        have s8 : (4 + ((bodyA q a b (encO c f h x v m) d).length : Int)).tmod 8 = 0 := by rw [Int.tmod_eq_emod_of_nonneg (by omega)]; omega
        obtain ⟨L, hL⟩ : ∃ L, (bodyA q a b (encO c f h x v m) d).length = L := ⟨_, rfl⟩
        rw [hL] at s1 s2 s3 hlen s8
        by_cases h0 : acE y = 0
        · obtain ⟨D1, D2, D3, D4⟩ := kD h0
          have hI := kI h0
          repeat' (intro t ht; first | (cases t <;> first | (cases ht; done) | ((try simp only [Bool.not_eq_eq_eq_not, Bool.not_true, Bool.not_false, Bool.and_eq_true, Bool.and_eq_false_iff, decide_eq_true_eq, decide_eq_false_iff_not] at ht); (try simp only [Int.toNat_natCast, dflt_int] at ht))) | (refine ht ?_ ?_ <;> clear ht) | (refine ht.1 ?_ ?_ <;> clear ht) | (refine ht ?_; clear ht))
          all_goals (try simp only [hr, if_true, if_false, Bool.false_eq_true, reduceCtorEq, cast_rfl, List.nil_append, not_true_eq_false, not_false_eq_true, h0, hI, D1, D2, hE, E1, E2, E3, E4, E5, E6, E7, E8, E9, E10, E11, E12, EI, s0, hL, s8, hct, hcut, hself] at *)
          all_goals first
            | exact True.intro
            | contradiction
            | exact ⟨lV, lM⟩
            | omega
            | (constructor <;> omega)
            | (exfalso; omega)
            | (simp only [min_i64, max_i64]; omega)
            | exact ⟨rfl, by first | rfl | exact True.intro⟩
            | (simp only [List.length_append, List.length_nil, List.length_take] at *; omega)
            | (simp only [List.length_append, List.length_nil, List.length_take] at *; constructor <;> omega)
            | trace_state
        · obtain ⟨n1, n2, n3, n4, n5, n6⟩ := kB h0
          repeat' (intro t ht; first | (cases t <;> first | (cases ht; done) | ((try simp only [Bool.not_eq_eq_eq_not, Bool.not_true, Bool.not_false, Bool.and_eq_true, Bool.and_eq_false_iff, decide_eq_true_eq, decide_eq_false_iff_not] at ht); (try simp only [Int.toNat_natCast, dflt_int] at ht))) | (refine ht ?_ ?_ <;> clear ht) | (refine ht.1 ?_ ?_ <;> clear ht) | (refine ht ?_; clear ht))
          all_goals (try simp only [hr, if_true, if_false, Bool.false_eq_true, reduceCtorEq, cast_rfl, List.nil_append, not_true_eq_false, not_false_eq_true, h0, n1, n2, hE, E1, E2, E3, E4, E5, E6, E7, E8, E9, E10, E11, E12, EI, s0, hL, s8, hct, hcut, hself] at *)
          all_goals first
            | exact True.intro
            | contradiction
            | omega
            | (constructor <;> omega)
            | (exfalso; omega)
            | (simp only [min_i64, max_i64]; omega)
            | exact ⟨rfl, by first | rfl | exact True.intro⟩
            | (simp only [List.length_append, List.length_nil, List.length_take] at *; omega)
            | (simp only [List.length_append, List.length_nil, List.length_take] at *; constructor <;> omega)
            | trace_state
    · repeat' (intro t ht; first | (cases t <;> first | (cases ht; done) | ((try simp only [Bool.not_eq_eq_eq_not, Bool.not_true, Bool.not_false, Bool.and_eq_true, Bool.and_eq_false_iff, decide_eq_true_eq, decide_eq_false_iff_not] at ht); (try simp only [Int.toNat_natCast, dflt_int] at ht); (try (exfalso; first | contradiction | omega)))) | (refine ht ?_ ?_ <;> clear ht) | (refine ht.1 ?_ ?_ <;> clear ht) | (refine ht ?_; clear ht))
      all_goals first
        | exact True.intro
        | exact ⟨rfl, rfl⟩
        | (exfalso; simp only [Bool.and_eq_true, decide_eq_true_eq] at *; omega)
        | trace_state
  · cases e
end Go.Eng
