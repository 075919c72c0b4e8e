/- Contracts of functions of the given program, told by plain Lean functions. No condition. -/
import Derived.Test.YtgljcfbcdniffaaDoorProg
import Derived.Test.YtgljcfbcdniffaaDoorESum
import Derived.KernelRfl
import Derived.Test.YtgljcfbcdniffaaDoorOE
namespace Go.Eng
open Go.Proofs
set_option linter.unusedVariables false
set_option linter.unusedSimpArgs false
set_option maxRecDepth 100000
set_option maxHeartbeats 1000000
def L1 : List Int := [128, 0, 10, 2, 8, 0, 7]
def L2 : List Int := [128, 0, 11, 4, 8, 0, 8, 0]
theorem s1 : decE L1 = 0 ∧ decI L1 (decC L1) = 32768 ∧ decI L1 (decF L1) = 5 ∧ decH L1 = false ∧ decI L1 (decX L1) = 0 ∧ decR L1 (decV L1) = [8, 0] ∧ decR L1 (decM L1) = [] ∧ decI L1 (decN L1) = 6 ∧ decE L2 = 1033 := by decide +kernel
theorem s2 : rightO 32768 5 false 0 [8, 0] [] = true ∧ encO 32768 5 false 0 [8, 0] [] = [128, 0, 10, 2, 8, 0] := by decide +kernel
def ir_l08_sure : IR :=
 (.seq
  (.keep []
  (.reg ((⟨(some 0), .mov (.c (.kb false)), none⟩ : IOper) ::
    [])))
  (.seq
   (.keep []
   (.reg ((⟨(some 10), .sliceAll (.int .u8) 7 [(0, 1, (.c (.int .u8 128))), (1, 1, (.c (.int .u8 0))), (2, 1, (.c (.int .u8 10))), (3, 1, (.c (.int .u8 2))), (4, 1, (.c (.int .u8 8))), (5, 1, (.c (.int .u8 0))), (6, 1, (.c (.int .u8 7)))], none⟩ : IOper) ::
     (⟨(some 11), .call false (.f 46) [(.t 10)], none⟩ : IOper) ::
     (⟨(some 9), .mov (.t 11), none⟩ : IOper) ::
     (⟨(some 12), .extract (.t 9) 0, none⟩ : IOper) ::
     (⟨(some 13), .extract (.t 9) 1, none⟩ : IOper) ::
     (⟨(some 14), .extract (.t 9) 2, none⟩ : IOper) ::
     (⟨(some 1), .box [.int .i64 0, .int .i64 0, .kb false, .int .u64 0, .imm (.int .u8) [], .imm (.int .u8) []], none⟩ : IOper) ::
     (⟨none, .store 6 (.t 1) (.t 12), none⟩ : IOper) ::
     (⟨(some 2), .mov (.t 13), none⟩ : IOper) ::
     (⟨(some 3), .mov (.t 14), none⟩ : IOper) ::
     [])))
   (.seq
    (.keep [1, 2, 3]
    (.reg ((⟨(some 16), .sliceAll (.int .u8) 8 [(0, 1, (.c (.int .u8 128))), (1, 1, (.c (.int .u8 0))), (2, 1, (.c (.int .u8 11))), (3, 1, (.c (.int .u8 4))), (4, 1, (.c (.int .u8 8))), (5, 1, (.c (.int .u8 0))), (6, 1, (.c (.int .u8 8))), (7, 1, (.c (.int .u8 0)))], none⟩ : IOper) ::
      (⟨(some 17), .call false (.f 46) [(.t 16)], none⟩ : IOper) ::
      (⟨(some 15), .mov (.t 17), none⟩ : IOper) ::
      (⟨(some 18), .extract (.t 15) 0, none⟩ : IOper) ::
      (⟨(some 19), .extract (.t 15) 1, none⟩ : IOper) ::
      (⟨(some 20), .extract (.t 15) 2, none⟩ : IOper) ::
      (⟨(some 4), .box [.int .i64 0, .int .i64 0, .kb false, .int .u64 0, .imm (.int .u8) [], .imm (.int .u8) []], none⟩ : IOper) ::
      (⟨none, .store 6 (.t 4) (.t 18), none⟩ : IOper) ::
      (⟨(some 5), .mov (.t 19), none⟩ : IOper) ::
      (⟨(some 6), .mov (.t 20), none⟩ : IOper) ::
      [])))
    (.seq
     (.keep [1, 2, 3, 6]
     (.reg ((⟨(some 22), .load (some 6) (.t 1), none⟩ : IOper) ::
       (⟨(some 23), .call false (.f 47) [(.t 22)], none⟩ : IOper) ::
       (⟨(some 21), .mov (.t 23), none⟩ : IOper) ::
       (⟨(some 24), .extract (.t 21) 0, none⟩ : IOper) ::
       (⟨(some 25), .extract (.t 21) 1, none⟩ : IOper) ::
       (⟨(some 7), .mov (.t 24), none⟩ : IOper) ::
       (⟨(some 8), .mov (.t 25), none⟩ : IOper) ::
       [])))
     (.seq
      (.keep [1, 2, 3, 6, 7, 8]
      (.reg ((⟨(some 26), .mov (.t 3), none⟩ : IOper) ::
        (⟨(some 27), .bin .eql (.t 26) (.c (.int .i64 0)), none⟩ : IOper) ::
        (⟨(some 28), .mov (.t 27), none⟩ : IOper) ::
        (⟨(some 29), .mov (.t 2), (some (28, true))⟩ : IOper) ::
        (⟨(some 30), .bin .eql (.t 29) (.c (.int .i64 6)), (some (28, true))⟩ : IOper) ::
        (⟨(some 31), .pick (.t 28) (.t 30) (.c (.kb false)), none⟩ : IOper) ::
        (⟨(some 32), .mov (.t 31), none⟩ : IOper) ::
        (⟨(some 33), .fieldAddr 1 (.t 1), (some (32, true))⟩ : IOper) ::
        (⟨(some 34), .load none (.t 33), (some (32, true))⟩ : IOper) ::
        (⟨(some 35), .bin .eql (.t 34) (.c (.int .i64 5)), (some (32, true))⟩ : IOper) ::
        (⟨(some 36), .pick (.t 32) (.t 35) (.c (.kb false)), none⟩ : IOper) ::
        (⟨(some 37), .mov (.t 36), none⟩ : IOper) ::
        (⟨(some 38), .fieldAddr 4 (.t 1), (some (37, true))⟩ : IOper) ::
        (⟨(some 39), .load none (.t 38), (some (37, true))⟩ : IOper) ::
        (⟨(some 40), .sliceAll (.int .u8) 2 [(0, 1, (.c (.int .u8 8))), (1, 1, (.c (.int .u8 0)))], (some (37, true))⟩ : IOper) ::
        (⟨(some 41), .call false (.f 35) [(.t 39), (.t 40)], (some (37, true))⟩ : IOper) ::
        (⟨(some 42), .pick (.t 37) (.t 41) (.c (.kb false)), none⟩ : IOper) ::
        (⟨(some 43), .mov (.t 42), none⟩ : IOper) ::
        (⟨(some 44), .mov (.t 6), (some (43, true))⟩ : IOper) ::
        (⟨(some 45), .bin .eql (.t 44) (.c (.int .i64 1033)), (some (43, true))⟩ : IOper) ::
        (⟨(some 46), .pick (.t 43) (.t 45) (.c (.kb false)), none⟩ : IOper) ::
        (⟨(some 47), .mov (.t 46), none⟩ : IOper) ::
        (⟨(some 48), .mov (.t 8), (some (47, true))⟩ : IOper) ::
        (⟨(some 49), .bin .eql (.t 48) (.c (.int .i64 0)), (some (47, true))⟩ : IOper) ::
        (⟨(some 50), .pick (.t 47) (.t 49) (.c (.kb false)), none⟩ : IOper) ::
        (⟨(some 51), .mov (.t 50), none⟩ : IOper) ::
        (⟨(some 52), .mov (.t 7), (some (51, true))⟩ : IOper) ::
        (⟨(some 53), .sliceAll (.int .u8) 6 [(0, 1, (.c (.int .u8 128))), (1, 1, (.c (.int .u8 0))), (2, 1, (.c (.int .u8 10))), (3, 1, (.c (.int .u8 2))), (4, 1, (.c (.int .u8 8))), (5, 1, (.c (.int .u8 0)))], (some (51, true))⟩ : IOper) ::
        (⟨(some 54), .call false (.f 35) [(.t 52), (.t 53)], (some (51, true))⟩ : IOper) ::
        (⟨(some 55), .pick (.t 51) (.t 54) (.c (.kb false)), none⟩ : IOper) ::
        (⟨(some 56), .mov (.t 55), none⟩ : IOper) ::
        (⟨(some 57), .load (some 6) (.t 1), (some (56, true))⟩ : IOper) ::
        (⟨(some 58), .call false (.f 48) [(.t 57)], (some (56, true))⟩ : IOper) ::
        (⟨(some 59), .pick (.t 56) (.t 58) (.c (.kb false)), none⟩ : IOper) ::
        (⟨(some 0), .mov (.t 59), none⟩ : IOper) ::
        [])))
      .ret)))))
def rd_l08_sure : List RD := [.tmp 0 true none]
theorem ok_l08_sure : fnOk Tryd.prog Tryd.f10 ir_l08_sure rd_l08_sure = true := by kernel_rfl
def S_l08_sure : List AV → List Obj → Option (Prop × AV)
  | [], [] => some ((True, .bool true))
  | _, _ => none
theorem snd_l08_sure : SoundS Tryd.prog 10 (RoF S_l08_sure).sum := by
  refine ro_fn Tryd.func10 ok_l08_sure (env_cons (s := RoF S_oxm_Decode) snd_oxm_Decode (env_cons (s := RoF S_oxm_Encode) snd_oxm_Encode (env_cons (s := RoF S_r01_Bytes) snd_r01_Bytes (env_cons (s := RoF S_oxm_Right) snd_oxm_Right (env_nil _))))) fun args objs p v e => ?_
  unfold S_l08_sure at e
  split at e
  · cases e
    refine ⟨rfl, fun hw ho hp => ?_⟩
    obtain ⟨e1, e2, e3, e4, e5, e6, e7, e8, e9⟩ := s1
    obtain ⟨r1, r2⟩ := s2
    unfold L1 at e1 e2 e3 e4 e5 e6 e7 e8
    unfold L2 at e9
    repeat' (intro t ht; first | (cases t <;> first | (cases ht; done) | ((try simp only [Bool.not_eq_eq_eq_not, Bool.not_true, Bool.not_false, Bool.and_eq_true, Bool.and_eq_false_iff, decide_eq_true_eq, decide_eq_false_iff_not] at ht); (try simp only [Int.toNat_natCast, dflt_int] at ht))) | (refine ht ?_ ?_ <;> clear ht) | (refine ht.1 ?_ ?_ <;> clear ht) | (refine ht ?_; clear ht))
    all_goals (try simp only [e1, e2, e3, e5, e6, e7, e8, e9, e4, r1, r2, if_true, reduceCtorEq, not_true_eq_false] at *)
    all_goals first
      | exact True.intro
      | exact ⟨by decide, by decide⟩
      | exact (by decide)
      | contradiction
      | trace_state
  · cases e
end Go.Eng
