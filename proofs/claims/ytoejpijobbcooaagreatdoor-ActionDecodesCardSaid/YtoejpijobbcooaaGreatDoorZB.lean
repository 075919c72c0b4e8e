/- Contracts of functions of the given program, told by plain Lean functions. No condition. -/
import Derived.Test.YtoejpijobbcooaaGreatDoorProg
import Derived.Test.YtoejpijobbcooaaGreatDoorEArg
import Derived.KernelRfl
import Derived.Test.YtoejpijobbcooaaGreatDoorZ4
import Derived.Test.YtoejpijobbcooaaGreatDoorAB
namespace Go.Eng
open Go.Proofs
set_option linter.unusedVariables false
set_option linter.unusedSimpArgs false
set_option maxRecDepth 100000
set_option maxHeartbeats 1000000
def ir_l12_ActionDecodes : IR :=
(.seq
(.keep [0]
(.reg (⟨some 2, .mov (.c (.kb false)), none⟩ ::
[])))
(.seq
(.seq
(.reg (⟨some 9, .mov (.t 0), none⟩ ::
⟨some 10, .len (.t 9), none⟩ ::
⟨some 11, .bin .gtr (.t 10) (.c (.int .i64 600)), none⟩ ::
[]))
(.cond (.t 11)
(.seq
(.reg (⟨some 12, .call false (.f 9) [], none⟩ ::
⟨some 2, .mov (.t 12), none⟩ ::
[]))
.ret)
.skip))
(.seq
(.keep [0]
(.reg (⟨some 14, .mov (.t 0), none⟩ ::
⟨some 15, .call false (.f 15) [(.t 14)], none⟩ ::
⟨some 13, .mov (.t 15), none⟩ ::
⟨some 16, .extract (.t 13) 0, none⟩ ::
⟨some 17, .extract (.t 13) 1, none⟩ ::
⟨some 18, .extract (.t 13) 2, none⟩ ::
⟨some 3, .box [.int .i64 0, .int .u64 0, .int .u64 0, .int .i64 0, .int .i64 0, .kb false, .int .u64 0, .imm (.int .u8) [], .imm (.int .u8) [], .imm (.int .u8) []], none⟩ ::
⟨none, .store 10 (.t 3) (.t 16), none⟩ ::
⟨some 4, .mov (.t 17), none⟩ ::
⟨some 5, .mov (.t 18), none⟩ ::
[])))
(.seq
(.keep [0, 3, 4, 5]
(.reg (⟨some 20, .mov (.t 0), none⟩ ::
⟨some 21, .call false (.f 16) [(.t 20)], none⟩ ::
⟨some 19, .mov (.t 21), none⟩ ::
⟨some 22, .extract (.t 19) 0, none⟩ ::
⟨some 23, .extract (.t 19) 1, none⟩ ::
⟨some 24, .extract (.t 19) 2, none⟩ ::
⟨some 6, .box [.int .i64 0, .int .u64 0, .int .u64 0, .int .i64 0, .int .i64 0, .kb false, .int .u64 0, .imm (.int .u8) [], .imm (.int .u8) [], .imm (.int .u8) []], none⟩ ::
⟨none, .store 10 (.t 6) (.t 22), none⟩ ::
⟨some 7, .mov (.t 23), none⟩ ::
⟨some 8, .mov (.t 24), none⟩ ::
[])))
(.seq
(.keep [3, 4, 5, 6, 7, 8]
(.reg (⟨some 25, .load (some 10) (.t 3), none⟩ ::
⟨some 26, .load (some 10) (.t 6), none⟩ ::
⟨some 27, .call false (.f 17) [(.t 25), (.t 26)], none⟩ ::
⟨some 28, .mov (.t 27), none⟩ ::
⟨some 29, .mov (.t 4), some (28, true)⟩ ::
⟨some 30, .mov (.t 7), some (28, true)⟩ ::
⟨some 31, .bin .eql (.t 29) (.t 30), some (28, true)⟩ ::
⟨some 32, .pick (.t 28) (.t 31) (.c (.kb false)), none⟩ ::
⟨some 33, .mov (.t 32), none⟩ ::
⟨some 34, .mov (.t 5), some (33, true)⟩ ::
⟨some 35, .mov (.t 8), some (33, true)⟩ ::
⟨some 36, .bin .eql (.t 34) (.t 35), some (33, true)⟩ ::
⟨some 37, .pick (.t 33) (.t 36) (.c (.kb false)), none⟩ ::
⟨some 38, .mov (.t 37), none⟩ ::
⟨some 39, .call false (.f 9) [], some (38, true)⟩ ::
⟨some 40, .pick (.t 38) (.t 39) (.c (.kb false)), none⟩ ::
⟨some 2, .mov (.t 40), none⟩ ::
[])))
.ret)))))
def rd_l12_ActionDecodes : List RD := [.tmp 2 true none]
theorem ok_l12_ActionDecodes : fnOk Tryz.prog Tryz.f4 ir_l12_ActionDecodes rd_l12_ActionDecodes = true := by kernel_rfl
def S_l12_ActionDecodes : List AV → List Obj → Option (Prop × AV)
  | [.imm (.int .u8) b], [] => some ((True, .bool true))
  | _, _ => none
theorem snd_l12_ActionDecodes : SoundS Tryz.prog 4 (RoF S_l12_ActionDecodes).sum := by
  refine ro_fn Tryz.func4 ok_l12_ActionDecodes (env_cons (s := RoF S_l12_sure) snd_l12_sure (env_cons (s := RoF S_action_Decode) snd_action_Decode (env_cons (s := RoF S_r12_Decode) snd_r12_Decode (env_cons (s := RoF S_r12_Same) snd_r12_Same (env_nil _))))) fun args objs p v e => ?_
  unfold S_l12_ActionDecodes at e
  split at e
  · rename_i b
    cases e
    refine ⟨rfl, fun hw ho hp => ?_⟩
    change List Int at b
    have hb : ∀ x ∈ (b : List Int), (0 : Int) ≤ x ∧ x ≤ 255 := fun x hx => (hw (.imm (.int .u8) b) (by simp)).1 x hx
    clear hw ho
    have hs := same_selfA (acI b (tT b)) (acA b 0) (acA b 1) (acS b (decC (bd b))) (acS b (decF (bd b))) (acH b) (acS b (decX (bd b))) (acV b (decV (bd b))) (acV b (decM (bd b))) (acD b)
    repeat' (intro t ht; first | (cases t <;> first | (cases ht; done) | ((try simp only [Bool.not_eq_eq_eq_not, Bool.not_true, Bool.not_false, Bool.and_eq_true, Bool.and_eq_false_iff, decide_eq_true_eq, decide_eq_false_iff_not] at ht); (try simp only [Int.toNat_natCast, dflt_int] at ht))) | (refine ht ?_ ?_ <;> clear ht) | (refine ht.1 ?_ ?_ <;> clear ht) | (refine ht ?_; clear ht))
    all_goals (try simp only [hs] at *)
    all_goals first
      | exact True.intro
      | contradiction
      | omega
      | exact ⟨rfl, by first | rfl | exact True.intro⟩
      | exact ⟨True.intro, True.intro⟩
      | (exfalso; omega)
      | ((try simp only [Int.toNat_natCast, dflt_int, decide_eq_true_eq, decide_eq_false_iff_not, Bool.not_eq_eq_eq_not, Bool.not_true, Bool.not_false, Bool.and_eq_true, Bool.and_eq_false_iff, min_i64, max_i64, min_u64, max_u64, min_u32, max_u32, min_u16, max_u16, min_u8, max_u8] at *); omega)
      | (exfalso; simp_all; done)
      | trace_state
  · cases e
end Go.Eng
