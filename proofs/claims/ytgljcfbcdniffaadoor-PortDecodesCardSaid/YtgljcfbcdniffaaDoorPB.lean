/- Contracts of functions of the given program, told by plain Lean functions. No condition. -/
import Derived.Test.YtgljcfbcdniffaaDoorProg
import Derived.Test.YtgljcfbcdniffaaDoorESum
import Derived.KernelRfl
import Derived.Test.YtgljcfbcdniffaaDoorPA
namespace Go.Eng
open Go.Proofs
set_option linter.unusedVariables false
set_option linter.unusedSimpArgs false
set_option maxRecDepth 100000
set_option maxHeartbeats 1000000
def L1 : List PV := [(1, 258, [101, 116, 104, 48], (0, 0, 0, 0, 0, 0, 0, 0, ()), ())]
def L2 : List PV := [(1, 0, [97, 32, 98], (0, 0, 0, 0, 0, 0, 0, 0, ()), ())]
theorem L1_wf : ∀ p ∈ L1, pwf p := by
  intro p hp
  unfold L1 at hp
  rcases List.mem_cons.1 hp with rfl | hp
  · exact ⟨by unfold n64; decide, by unfold n64; decide⟩
  · cases hp
theorem sure1 : encE L1 = 0 ∧ (encL L1).length = 64 ∧ ((encL L1).take 21).drop 12 = [1, 2, 0, 0, 101, 116, 104, 48, 0] ∧ encE L2 = 10001 := by decide +kernel
theorem sure2 : dE (encL L1) = 0 ∧ dL (encL L1) = L1 := by
  obtain ⟨h1, h2⟩ := enc_some L1_wf (by decide) sure1.1
  obtain ⟨x, hx, hd⟩ := dG_of L1 [] _ L1_wf h1
  rw [List.nil_append] at hx; subst hx
  have : dE (encL L1) = 0 := by unfold dE; rw [hd]
  exact ⟨this, by unfold dL; rw [hd]; rfl⟩
theorem sure3 : dE [] = 0 ∧ dL [] = [] := by unfold dE dL; rw [dG_nil rfl]; exact ⟨rfl, rfl⟩
def ir_l19_sure : IR :=
 (.seq
  (.keep []
  (.reg ((⟨(some 0), .mov (.c (.kb false)), none⟩ : IOper) ::
    [])))
  (.seq
   (.keep []
   (.reg ((⟨(some 10), .call false (.f 17) [(.c (.imm (.int .u8) []))], none⟩ : IOper) ::
     (⟨(some 9), .mov (.t 10), none⟩ : IOper) ::
     (⟨(some 11), .extract (.t 9) 0, none⟩ : IOper) ::
     (⟨(some 12), .extract (.t 9) 1, none⟩ : IOper) ::
     (⟨(some 1), .mov (.t 11), none⟩ : IOper) ::
     (⟨(some 2), .mov (.t 12), none⟩ : IOper) ::
     [])))
   (.seq
    (.keep [1, 2]
    (.reg ((⟨(some 14), .build [.int .u64 0, .int .u64 0, .str [], .int .u64 0, .int .u64 0, .int .u64 0, .int .u64 0, .int .u64 0, .int .u64 0, .int .u64 0, .int .u64 0] [(0, 1, (.c (.int .u64 1))), (1, 1, (.c (.int .u64 258))), (2, 1, (.c (.str [101, 116, 104, 48])))], none⟩ : IOper) ::
      (⟨(some 15), .sliceAll (.cons (.int .u64) (.cons (.int .u64) (.cons .str (.cons (.cons (.int .u64) (.cons (.int .u64) (.cons (.int .u64) (.cons (.int .u64) (.cons (.int .u64) (.cons (.int .u64) (.cons (.int .u64) (.cons (.int .u64) .nil)))))))) .nil)))) 1 [(0, 11, (.t 14))], none⟩ : IOper) ::
      (⟨(some 16), .call false (.f 28) [(.t 15)], none⟩ : IOper) ::
      (⟨(some 13), .mov (.t 16), none⟩ : IOper) ::
      (⟨(some 17), .extract (.t 13) 0, none⟩ : IOper) ::
      (⟨(some 18), .extract (.t 13) 1, none⟩ : IOper) ::
      (⟨(some 3), .mov (.t 17), none⟩ : IOper) ::
      (⟨(some 4), .mov (.t 18), none⟩ : IOper) ::
      [])))
    (.seq
     (.keep [1, 2, 3, 4]
     (.reg ((⟨(some 20), .mov (.t 3), none⟩ : IOper) ::
       (⟨(some 21), .call false (.f 17) [(.t 20)], none⟩ : IOper) ::
       (⟨(some 19), .mov (.t 21), none⟩ : IOper) ::
       (⟨(some 22), .extract (.t 19) 0, none⟩ : IOper) ::
       (⟨(some 23), .extract (.t 19) 1, none⟩ : IOper) ::
       (⟨(some 5), .mov (.t 22), none⟩ : IOper) ::
       (⟨(some 6), .mov (.t 23), none⟩ : IOper) ::
       [])))
     (.seq
      (.keep [1, 2, 3, 4, 5, 6]
      (.reg ((⟨(some 25), .build [.int .u64 0, .int .u64 0, .str [], .int .u64 0, .int .u64 0, .int .u64 0, .int .u64 0, .int .u64 0, .int .u64 0, .int .u64 0, .int .u64 0] [(0, 1, (.c (.int .u64 1))), (2, 1, (.c (.str [97, 32, 98])))], none⟩ : IOper) ::
        (⟨(some 26), .sliceAll (.cons (.int .u64) (.cons (.int .u64) (.cons .str (.cons (.cons (.int .u64) (.cons (.int .u64) (.cons (.int .u64) (.cons (.int .u64) (.cons (.int .u64) (.cons (.int .u64) (.cons (.int .u64) (.cons (.int .u64) .nil)))))))) .nil)))) 1 [(0, 11, (.t 25))], none⟩ : IOper) ::
        (⟨(some 27), .call false (.f 28) [(.t 26)], none⟩ : IOper) ::
        (⟨(some 24), .mov (.t 27), none⟩ : IOper) ::
        (⟨(some 28), .extract (.t 24) 0, none⟩ : IOper) ::
        (⟨(some 29), .extract (.t 24) 1, none⟩ : IOper) ::
        (⟨(some 7), .mov (.t 28), none⟩ : IOper) ::
        (⟨(some 8), .mov (.t 29), none⟩ : IOper) ::
        [])))
      (.seq
       (.keep [1, 2, 3, 4, 5, 6, 8]
       (.reg ((⟨(some 30), .mov (.t 2), none⟩ : IOper) ::
         (⟨(some 31), .bin .eql (.t 30) (.c (.int .i64 0)), none⟩ : IOper) ::
         (⟨(some 32), .mov (.t 31), none⟩ : IOper) ::
         (⟨(some 33), .mov (.t 1), (some (32, true))⟩ : IOper) ::
         (⟨(some 34), .len (.t 33), (some (32, true))⟩ : IOper) ::
         (⟨(some 35), .bin .eql (.t 34) (.c (.int .i64 0)), (some (32, true))⟩ : IOper) ::
         (⟨(some 36), .pick (.t 32) (.t 35) (.c (.kb false)), none⟩ : IOper) ::
         (⟨(some 37), .mov (.t 36), none⟩ : IOper) ::
         (⟨(some 38), .mov (.t 4), (some (37, true))⟩ : IOper) ::
         (⟨(some 39), .bin .eql (.t 38) (.c (.int .i64 0)), (some (37, true))⟩ : IOper) ::
         (⟨(some 40), .pick (.t 37) (.t 39) (.c (.kb false)), none⟩ : IOper) ::
         (⟨(some 41), .mov (.t 40), none⟩ : IOper) ::
         (⟨(some 42), .mov (.t 3), (some (41, true))⟩ : IOper) ::
         (⟨(some 43), .len (.t 42), (some (41, true))⟩ : IOper) ::
         (⟨(some 44), .bin .eql (.t 43) (.c (.int .i64 64)), (some (41, true))⟩ : IOper) ::
         (⟨(some 45), .pick (.t 41) (.t 44) (.c (.kb false)), none⟩ : IOper) ::
         (⟨(some 46), .mov (.t 45), none⟩ : IOper) ::
         (⟨(some 47), .mov (.t 3), (some (46, true))⟩ : IOper) ::
         (⟨(some 48), .slice 1 (.t 47) (some (.c (.int .i64 12))) (some (.c (.int .i64 21))) none, (some (46, true))⟩ : IOper) ::
         (⟨(some 49), .sliceAll (.int .u8) 9 [(0, 1, (.c (.int .u8 1))), (1, 1, (.c (.int .u8 2))), (2, 1, (.c (.int .u8 0))), (3, 1, (.c (.int .u8 0))), (4, 1, (.c (.int .u8 101))), (5, 1, (.c (.int .u8 116))), (6, 1, (.c (.int .u8 104))), (7, 1, (.c (.int .u8 48))), (8, 1, (.c (.int .u8 0)))], (some (46, true))⟩ : IOper) ::
         (⟨(some 50), .call false (.f 35) [(.t 48), (.t 49)], (some (46, true))⟩ : IOper) ::
         (⟨(some 51), .pick (.t 46) (.t 50) (.c (.kb false)), none⟩ : IOper) ::
         (⟨(some 52), .mov (.t 51), none⟩ : IOper) ::
         (⟨(some 53), .mov (.t 6), (some (52, true))⟩ : IOper) ::
         (⟨(some 54), .bin .eql (.t 53) (.c (.int .i64 0)), (some (52, true))⟩ : IOper) ::
         (⟨(some 55), .pick (.t 52) (.t 54) (.c (.kb false)), none⟩ : IOper) ::
         (⟨(some 56), .mov (.t 55), none⟩ : IOper) ::
         (⟨(some 57), .mov (.t 5), (some (56, true))⟩ : IOper) ::
         (⟨(some 58), .len (.t 57), (some (56, true))⟩ : IOper) ::
         (⟨(some 59), .bin .eql (.t 58) (.c (.int .i64 1)), (some (56, true))⟩ : IOper) ::
         (⟨(some 60), .pick (.t 56) (.t 59) (.c (.kb false)), none⟩ : IOper) ::
         (⟨(some 61), .mov (.t 60), none⟩ : IOper) ::
         (⟨(some 62), .mov (.t 5), (some (61, true))⟩ : IOper) ::
         (⟨(some 63), .indexSl 11 (.t 62) (.c (.int .i64 0)), (some (61, true))⟩ : IOper) ::
         (⟨(some 64), .fieldAddr 2 (.t 63), (some (61, true))⟩ : IOper) ::
         (⟨(some 65), .load none (.t 64), (some (61, true))⟩ : IOper) ::
         (⟨(some 66), .bin .eql (.t 65) (.c (.str [101, 116, 104, 48])), (some (61, true))⟩ : IOper) ::
         (⟨(some 67), .pick (.t 61) (.t 66) (.c (.kb false)), none⟩ : IOper) ::
         (⟨(some 68), .mov (.t 67), none⟩ : IOper) ::
         (⟨(some 69), .mov (.t 8), (some (68, true))⟩ : IOper) ::
         (⟨(some 70), .bin .eql (.t 69) (.c (.int .i64 10001)), (some (68, true))⟩ : IOper) ::
         (⟨(some 71), .pick (.t 68) (.t 70) (.c (.kb false)), none⟩ : IOper) ::
         (⟨(some 72), .mov (.t 71), none⟩ : IOper) ::
         (⟨(some 73), .call false (.f 25) [(.c (.str [101, 116, 104, 48]))], (some (72, true))⟩ : IOper) ::
         (⟨(some 74), .pick (.t 72) (.t 73) (.c (.kb false)), none⟩ : IOper) ::
         (⟨(some 75), .mov (.t 74), none⟩ : IOper) ::
         (⟨(some 76), .call false (.f 25) [(.c (.str [97, 32, 98]))], (some (75, true))⟩ : IOper) ::
         (⟨(some 77), .un .not (.t 76), (some (75, true))⟩ : IOper) ::
         (⟨(some 78), .pick (.t 75) (.t 77) (.c (.kb false)), none⟩ : IOper) ::
         (⟨(some 0), .mov (.t 78), none⟩ : IOper) ::
         [])))
       .ret))))))
def rd_l19_sure : List RD := [.tmp 0 true none]
theorem ok_l19_sure : fnOk Tryd.prog Tryd.f16 ir_l19_sure rd_l19_sure = true := by kernel_rfl
def S_l19_sure : List AV → List Obj → Option (Prop × AV)
  | [], [] => some ((True, .bool true))
  | _, _ => none
theorem snd_l19_sure : SoundS Tryd.prog 16 (RoF S_l19_sure).sum := by
  refine ro_fn Tryd.func16 ok_l19_sure (env_cons (s := RoF S_port_Decode) snd_port_Decode (env_cons (s := RoF S_port_Encode) snd_port_Encode (env_cons (s := RoF S_r01_Bytes) snd_r01_Bytes (env_cons (s := RoF S_port_Name) snd_port_Name (env_nil _))))) fun args objs p v e => ?_
  unfold S_l19_sure at e
  split at e
  · cases e
    refine ⟨rfl, fun hw ho hp => ?_⟩
    obtain ⟨e1, e2, e3, e4⟩ := sure1
    obtain ⟨e5, e6⟩ := sure2
    obtain ⟨e7, e8⟩ := sure3
    unfold L1 at e1 e2 e3 e5 e6
    unfold L2 at e4
    have n1 : nameF [101, 116, 104, 48] = true := by decide
    have n2 : nameF [97, 32, 98] = false := by decide
    repeat' (intro t ht; first | (cases t <;> first | (cases ht; done) | ((try simp only [Bool.not_eq_eq_eq_not, Bool.not_true, Bool.not_false, Bool.and_eq_true, Bool.and_eq_false_iff, decide_eq_true_eq, decide_eq_false_iff_not] at ht); (try simp only [Int.toNat_natCast, dflt_int] at ht))) | (refine ht ?_ ?_ <;> clear ht) | (refine ht.1 ?_ ?_ <;> clear ht) | (refine ht ?_; clear ht))
    all_goals (try simp only [e1, e2, e3, e4, e5, e6, e7, e8, n1, n2, if_true, reduceCtorEq, not_true_eq_false, List.length_nil, List.length_cons] at *)
    all_goals first
      | exact True.intro
      | exact ⟨by decide, by decide⟩
      | exact (by decide)
      | exact ⟨rfl, by first | rfl | exact True.intro⟩
      | contradiction
      | trace_state
  · cases e
end Go.Eng
