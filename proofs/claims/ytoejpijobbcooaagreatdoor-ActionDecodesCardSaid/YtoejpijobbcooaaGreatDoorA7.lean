/- Contracts of functions of the given program, told by plain Lean functions. No condition. -/
import Derived.Test.YtoejpijobbcooaaGreatDoorProg
import Derived.Test.YtoejpijobbcooaaGreatDoorEArg
import Derived.KernelRfl
import Derived.Test.YtoejpijobbcooaaGreatDoorA6
import Derived.Test.YtoejpijobbcooaaGreatDoorOI
namespace Go.Eng
open Go.Proofs
set_option linter.unusedVariables false
set_option linter.unusedSimpArgs false
set_option maxRecDepth 100000
set_option maxHeartbeats 1000000
def ir_cursor_Cursor_Rest : IR :=
(.seq
(.keep [0]
(.reg (⟨some 2, .mov (.c (.imm (.int .u8) [])), none⟩ ::
[])))
(.seq
(.keep [0]
(.reg (⟨some 3, .mov (.t 0), none⟩ ::
⟨some 4, .mov (.t 0), none⟩ ::
⟨some 5, .call false (.f 119) [(.t 4)], none⟩ ::
⟨some 6, .call false (.f 30) [(.t 3), (.t 5)], none⟩ ::
⟨some 2, .mov (.t 6), none⟩ ::
[])))
.ret))
def rd_cursor_Cursor_Rest : List RD := [.tmp 2 true (some (.int .u8))]
theorem ok_cursor_Cursor_Rest : fnOk Tryz.prog Tryz.f103 ir_cursor_Cursor_Rest rd_cursor_Cursor_Rest = true := by kernel_rfl
def S_cursor_Cursor_Rest : List AV → List Obj → Option (Prop × AV × List Obj)
  | [.ptr 0 0], [.box [.imm (.int .u8) b, .int .i64 p, .int .i64 sh, .int .i64 od, .int .i64 e, .bool true]] => some ((0 ≤ p ∧ p ≤ b.length ∧ b.length ≤ 140737488355328 ∧ sh ≠ 0, .imm (.int .u8) (if e = 0 then b.drop p.toNat else []), [.box [.imm (.int .u8) b, .int .i64 ((if e = 0 then (b.length : Int) else p)), .int .i64 sh, .int .i64 od, .int .i64 e, .bool true]]))
  | _, _ => none
theorem snd_cursor_Cursor_Rest : SoundS Tryz.prog 103 (RwF S_cursor_Cursor_Rest).sum := by
  refine rw_fn Tryz.func103 ok_cursor_Cursor_Rest (env_cons (s := RoF S_cursor_Cursor_Left) snd_cursor_Cursor_Left (env_cons (s := RwF S_cursor_Cursor_Bytes) snd_cursor_Cursor_Bytes (env_nil _))) fun args objs p v o e => ?_
  unfold S_cursor_Cursor_Rest at e
  split at e
  · rename_i b p sh od e
    cases e
    refine ⟨rfl, fun hw ho hp => ?_⟩
    change List Int at b
    clear hw ho
    obtain ⟨h1, h2, h3, h4⟩ := hp
    have hE : takeE ((b.length : Int) - p) b p sh e = e := by unfold takeE; rw [if_neg (by omega), if_neg (by omega)]
    have hL : takeL ((b.length : Int) - p) b p sh e = if e = 0 then b.drop p.toNat else [] := by
      unfold takeL; rw [hE, show (p + ((b.length : Int) - p)).toNat = b.length by omega, List.take_length]
    have hP : takeP ((b.length : Int) - p) b p sh e = if e = 0 then (b.length : Int) else p := by
      unfold takeP; rw [hE, show p + ((b.length : Int) - p) = b.length by omega]
    repeat' (intro t ht; first | (cases t <;> first | (cases ht; done) | ((try simp only [Bool.not_eq_eq_eq_not, Bool.not_true, Bool.not_false, Bool.and_eq_true, Bool.and_eq_false_iff, decide_eq_true_eq, decide_eq_false_iff_not] at ht); (try simp only [Int.toNat_natCast, dflt_int] at ht))) | (refine ht ?_ ?_ <;> clear ht) | (refine ht.1 ?_ ?_ <;> clear ht) | (refine ht ?_; clear ht))
    all_goals first
      | exact True.intro
      | exact ⟨h1, h2⟩
      | exact ⟨h1, h2, h3, h4⟩
      | (rw [hE, hL, hP]; exact ⟨rfl, rfl⟩)
      | trace_state
  · cases e
def ir_action_set : IR :=
(.seq
(.keep [0]
(.reg (⟨some 2, .box [.int .i64 0, .int .i64 0, .kb false, .int .u64 0, .imm (.int .u8) [], .imm (.int .u8) []], none⟩ ::
⟨some 3, .mov (.c (.int .i64 0)), none⟩ ::
[])))
(.seq
(.keep [0, 2]
(.reg (⟨some 8, .mov (.t 0), none⟩ ::
⟨some 9, .call false (.f 101) [(.t 8)], none⟩ ::
⟨some 7, .mov (.t 9), none⟩ ::
⟨some 10, .extract (.t 7) 0, none⟩ ::
⟨some 11, .extract (.t 7) 1, none⟩ ::
⟨some 12, .extract (.t 7) 2, none⟩ ::
⟨some 4, .box [.int .i64 0, .int .i64 0, .kb false, .int .u64 0, .imm (.int .u8) [], .imm (.int .u8) []], none⟩ ::
⟨none, .store 6 (.t 4) (.t 10), none⟩ ::
⟨some 5, .mov (.t 11), none⟩ ::
⟨some 6, .mov (.t 12), none⟩ ::
[])))
(.seq
(.seq
(.keep [0, 2, 4, 5, 6]
(.reg (⟨some 13, .mov (.t 6), none⟩ ::
[])))
(.block 0
(.seq
(.reg (⟨some 16, .bin .eql (.t 13) (.c (.int .i64 0)), none⟩ ::
⟨some 15, .mov (.t 16), none⟩ ::
[]))
(.cond (.t 15)
.skip
(.seq
(.reg (⟨some 18, .bin .eql (.t 13) (.c (.int .i64 1026)), none⟩ ::
⟨some 17, .mov (.t 18), none⟩ ::
[]))
(.cond (.t 17)
(.seq
(.keep [2, 4]
(.reg (⟨some 19, .load (some 6) (.t 4), none⟩ ::
⟨none, .store 6 (.t 2) (.t 19), none⟩ ::
⟨some 3, .mov (.c (.int .i64 527)), none⟩ ::
[])))
.ret)
(.seq
(.keep [2, 4, 13]
(.reg (⟨some 21, .bin .eql (.t 13) (.c (.int .i64 1031)), none⟩ ::
⟨some 20, .mov (.t 21), none⟩ ::
[])))
(.cond (.t 20)
(.seq
(.reg (⟨some 22, .load (some 6) (.t 4), none⟩ ::
⟨none, .store 6 (.t 2) (.t 22), none⟩ ::
⟨some 3, .mov (.c (.int .i64 526)), none⟩ ::
[]))
.ret)
(.seq
(.reg (⟨some 14, .load (some 6) (.t 4), none⟩ ::
⟨none, .store 6 (.t 2) (.t 14), none⟩ ::
⟨some 3, .mov (.c (.int .i64 528)), none⟩ ::
[]))
.ret)))))))))
(.seq
(.block 1
(.seq
(.keep [0, 2, 4, 5]
(.reg (⟨some 24, .fieldAddr 0 (.t 4), none⟩ ::
⟨some 25, .load none (.t 24), none⟩ ::
⟨some 26, .bin .neq (.t 25) (.c (.int .i64 32768)), none⟩ ::
⟨some 27, .mov (.t 26), none⟩ ::
⟨some 28, .fieldAddr 1 (.t 4), some (27, false)⟩ ::
⟨some 29, .load none (.t 28), some (27, false)⟩ ::
⟨some 30, .call false (.f 96) [(.t 29)], some (27, false)⟩ ::
⟨some 31, .un .not (.t 30), some (27, false)⟩ ::
⟨some 32, .pick (.t 27) (.c (.kb true)) (.t 31), none⟩ ::
⟨some 23, .mov (.t 32), none⟩ ::
[])))
(.cond (.t 23)
(.seq
(.keep [2, 4]
(.reg (⟨some 33, .load (some 6) (.t 4), none⟩ ::
⟨none, .store 6 (.t 2) (.t 33), none⟩ ::
⟨some 3, .mov (.c (.int .i64 526)), none⟩ ::
[])))
.ret)
(.seq
(.keep [0, 2, 4, 5]
(.reg (⟨some 35, .fieldAddr 2 (.t 4), none⟩ ::
⟨some 36, .load none (.t 35), none⟩ ::
⟨some 34, .mov (.t 36), none⟩ ::
[])))
(.cond (.t 34)
(.seq
(.reg (⟨some 37, .load (some 6) (.t 4), none⟩ ::
⟨none, .store 6 (.t 2) (.t 37), none⟩ ::
⟨some 3, .mov (.c (.int .i64 528)), none⟩ ::
[]))
.ret)
(.seq
(.keep [0, 2, 4, 5]
(.reg (⟨some 39, .mov (.t 0), none⟩ ::
⟨some 40, .len (.t 39), none⟩ ::
⟨some 41, .mov (.t 5), none⟩ ::
⟨some 42, .bin .add (.t 41) (.c (.int .i64 8)), none⟩ ::
⟨some 43, .bin .geq (.t 40) (.t 42), none⟩ ::
⟨some 38, .mov (.t 43), none⟩ ::
[])))
(.cond (.t 38)
(.seq
(.keep [2, 4]
(.reg (⟨some 44, .load (some 6) (.t 4), none⟩ ::
⟨none, .store 6 (.t 2) (.t 44), none⟩ ::
⟨some 3, .mov (.c (.int .i64 527)), none⟩ ::
[])))
.ret)
(.seq
(.keep [0, 2, 4, 5]
(.reg (⟨some 46, .mov (.t 0), none⟩ ::
⟨some 47, .mov (.t 5), none⟩ ::
⟨some 48, .slice 1 (.t 46) (some (.t 47)) none none, none⟩ ::
⟨some 49, .call false (.f 102) [(.t 48), (.c (.str [0]))], none⟩ ::
⟨some 50, .len (.t 49), none⟩ ::
⟨some 51, .bin .gtr (.t 50) (.c (.int .i64 0)), none⟩ ::
⟨some 45, .mov (.t 51), none⟩ ::
[])))
(.cond (.t 45)
(.seq
(.keep [2, 4]
(.reg (⟨some 52, .load (some 6) (.t 4), none⟩ ::
⟨none, .store 6 (.t 2) (.t 52), none⟩ ::
⟨some 3, .mov (.c (.int .i64 528)), none⟩ ::
[])))
.ret)
.skip)))))))))
(.seq
(.keep [2, 4]
(.reg (⟨some 53, .load (some 6) (.t 4), none⟩ ::
⟨none, .store 6 (.t 2) (.t 53), none⟩ ::
⟨some 3, .mov (.c (.int .i64 0)), none⟩ ::
[])))
.ret)))))
def rd_action_set : List RD := [.cell 2 (some 6) true [], .tmp 3 true none]
theorem ok_action_set : fnOk Tryz.prog Tryz.f52 ir_action_set rd_action_set = true := by kernel_rfl
def S_action_set : List AV → List Obj → Option (Prop × AV)
  | [.imm (.int .u8) b], [] => some ((b.length ≤ 140737488355328, .tup [.agg [.int .i64 (decI b (decC b)), .int .i64 (decI b (decF b)), .bool ((if decE b = 0 then decH b else false)), .int .u64 (decI b (decX b)), .imm (.int .u8) (decR b (decV b)), .imm (.int .u8) (decR b (decM b))], .int .i64 (setE b)]))
  | _, _ => none
theorem snd_action_set : SoundS Tryz.prog 52 (RoF S_action_set).sum := by
  refine ro_fn Tryz.func52 ok_action_set (env_cons (s := RoF S_oxm_Decode) snd_oxm_Decode (env_cons (s := RoF S_field_Settable) snd_field_Settable (env_cons (s := RoF S_bytes_Trim) snd_bytes_Trim (env_nil _)))) fun args objs p v e => ?_
  unfold S_action_set at e
  split at e
  · rename_i b
    cases e
    refine ⟨rfl, fun hw ho hp => ?_⟩
    change List Int at b
    have hb : ∀ x ∈ (b : List Int), (0 : Int) ≤ x ∧ x ≤ 255 := fun x hx => (hw (.imm (.int .u8) b) (by simp)).1 x hx
    clear hw ho
    by_cases h0 : decE b = 0
    · obtain ⟨E1, E2, E3, E4⟩ := enc_dec hb h0
      have htz := trim_zero (b.drop (decN b).toNat)
      have hS : setE b = if ¬ (decC b = 32768 ∧ settF (decF b) = true) then 526 else if decH b = true then 528 else if decN b + 8 ≤ b.length then 527 else if zeroL (b.drop (decN b).toNat) = true then 0 else 528 := if_pos h0
      repeat' (intro t ht; first | (cases t <;> first | (cases ht; done) | ((try simp only [Bool.not_eq_eq_eq_not, Bool.not_true, Bool.not_false, Bool.and_eq_true, Bool.and_eq_false_iff, decide_eq_true_eq, decide_eq_false_iff_not] at ht); (try simp only [Int.toNat_natCast, dflt_int] at ht); (try (exfalso; first | contradiction | omega)))) | (refine ht ?_ ?_ <;> clear ht) | (refine ht.1 ?_ ?_ <;> clear ht) | (refine ht ?_; clear ht))
      all_goals (try simp only [decI, h0, if_true] at *)
      all_goals first
        | exact True.intro
        | exact hp
        | omega
        | ((try simp only [Int.toNat_natCast, dflt_int, decide_eq_true_eq, decide_eq_false_iff_not, Bool.not_eq_eq_eq_not, Bool.not_true, Bool.not_false, Bool.and_eq_true, Bool.and_eq_false_iff, min_i64, max_i64, min_u64, max_u64, min_u32, max_u32, min_u16, max_u16, min_u8, max_u8] at *); omega)
        | (rw [List.length_drop]; omega)
        | (exfalso; simp_all; done)
        | (refine ⟨congrArg (fun z => AV.tup [_, AV.int .i64 z]) ?_, by first | rfl | exact True.intro⟩; rw [hS]; clear hS; simp_all; done)
        | (refine ⟨?_, by first | rfl | exact True.intro⟩; rw [hS]; clear hS; simp_all; done)
        | (have hz : zeroL (b.drop (decN b).toNat) = true := by rw [← htz]; exact decide_eq_true (by omega)
           refine ⟨?_, by first | rfl | exact True.intro⟩; rw [hS]; clear hS; simp_all; done)
        | (have hz : zeroL (b.drop (decN b).toNat) = false := by rw [← htz]; exact decide_eq_false (by omega)
           refine ⟨?_, by first | rfl | exact True.intro⟩; rw [hS]; clear hS; simp_all; done)
        | trace_state
    · have hS : setE b = if decE b = 1026 then 527 else if decE b = 1031 then 526 else 528 := if_neg h0
      repeat' (intro t ht; first | (cases t <;> first | (cases ht; done) | ((try simp only [Bool.not_eq_eq_eq_not, Bool.not_true, Bool.not_false, Bool.and_eq_true, Bool.and_eq_false_iff, decide_eq_true_eq, decide_eq_false_iff_not] at ht); (try simp only [Int.toNat_natCast, dflt_int] at ht); (try (exfalso; first | contradiction | omega)))) | (refine ht ?_ ?_ <;> clear ht) | (refine ht.1 ?_ ?_ <;> clear ht) | (refine ht ?_; clear ht))
      all_goals first
        | exact True.intro
        | exact hp
        | (exfalso; omega)
        | (refine ⟨congrArg (fun z => AV.tup [_, AV.int .i64 z]) ?_, by first | rfl | exact True.intro⟩; rw [hS]; clear hS; simp_all; done)
        | trace_state
  · cases e
def sameA (q a b c f : Int) (h : Bool) (x : Int) (v m d : List Int) (q' a' b' c' f' : Int) (h' : Bool) (x' : Int) (v' m' d' : List Int) : Bool := decide (q = q') && decide (a = a') && decide (b = b') && sameO c f h x v m c' f' h' x' v' m' && decide (d = d')
end Go.Eng
