/- Contracts of functions of the given program, told by plain Lean functions. No condition. -/
import Derived.Test.YtoejpijobbcooaaGreatDoorProg
import Derived.Test.YtoejpijobbcooaaGreatDoorEArg
import Derived.KernelRfl
import Derived.Test.YtoejpijobbcooaaGreatDoorZ1
import Derived.Test.YtoejpijobbcooaaGreatDoorF6
namespace Go.Eng
open Go.Proofs
set_option linter.unusedVariables false
set_option linter.unusedSimpArgs false
set_option maxRecDepth 100000
set_option maxHeartbeats 1000000
theorem sum_abs0 : ∀ (w : List Int), 0 ≤ (w.map absI).sum
  | [] => Int.le_refl _
  | n :: r => by
    have ha : 0 ≤ absI n := by unfold absI; split <;> omega
    have hr := sum_abs0 r
    rw [List.map_cons, List.sum_cons]; omega
theorem getA_one : ∀ (w b o : List Int), (getA w b o).2 = 1 → (b.length : Int) < (w.map absI).sum
  | [], b, o, h => by cases h
  | n :: r, b, o, h => by
    have ha : 0 ≤ absI n := by unfold absI; split <;> omega
    have hr := sum_abs0 r
    simp only [getA] at h
    rw [List.map_cons, List.sum_cons]
    split at h
    · omega
    · split at h
      · have := getA_one r _ _ h; rw [List.length_drop] at this; omega
      · split at h
        · have := getA_one r _ _ h; rw [List.length_drop] at this; omega
        · exact absurd h (by decide)
theorem getK_one {w b : List Int} (h : getK w b = 1) : (b.length : Int) < sizeW w := by
  unfold getK getF at h
  split at h
  · rename_i c
    unfold sizeW; rw [if_pos c]; exact getA_one _ _ _ h
  · exact absurd h (by decide)
theorem rI_0 {b : List Int} (h : rE b = 0) : (∀ x, rI b x = x) ∧ ∀ l, rR b l = l := ⟨fun _ => if_pos h, fun _ => if_pos h⟩
theorem rI_n {b : List Int} (h : ¬ rE b = 0) : (∀ x, rI b x = 0) ∧ ∀ l, rR b l = [] := ⟨fun _ => if_neg h, fun _ => if_neg h⟩
theorem bd_by {b : List Int} (hb : ∀ x ∈ b, 0 ≤ x ∧ x ≤ 255) : ∀ x ∈ bd b, 0 ≤ x ∧ x ≤ 255 := fun x hx => hb x (List.mem_of_mem_take (List.mem_of_mem_drop hx))
theorem bd_ge {b : List Int} (h : tlE b 8 8 514 = 0) : 4 ≤ (bd b).length := by
  unfold tlE at h
  split at h
  · cases h
  · split at h
    · cases h
    · split at h
      · cases h
      · unfold bd; rw [List.length_drop, List.length_take]; omega
def ir_r12_set : IR :=
(.seq
(.keep [0]
(.reg (⟨some 2, .box [.int .i64 0, .int .i64 0, .kb false, .int .u64 0, .imm (.int .u8) [], .imm (.int .u8) []], none⟩ ::
⟨some 3, .mov (.c (.int .i64 0)), none⟩ ::
[])))
(.seq
(.keep [0, 2]
(.reg (⟨some 9, .mov (.t 0), none⟩ ::
⟨some 10, .call false (.f 77) [(.t 9)], none⟩ ::
⟨some 8, .mov (.t 10), none⟩ ::
⟨some 11, .extract (.t 8) 0, none⟩ ::
⟨some 12, .extract (.t 8) 1, none⟩ ::
⟨some 13, .extract (.t 8) 2, none⟩ ::
⟨some 4, .box [.int .i64 0, .int .i64 0, .kb false, .int .u64 0, .imm (.int .u8) [], .imm (.int .u8) []], none⟩ ::
⟨none, .store 6 (.t 4) (.t 11), none⟩ ::
⟨some 5, .mov (.t 12), none⟩ ::
⟨some 6, .mov (.t 13), none⟩ ::
[])))
(.seq
(.block 0
(.seq
(.keep [0, 2, 4, 5, 6]
(.reg (⟨some 15, .mov (.t 6), none⟩ ::
⟨some 16, .bin .eql (.t 15) (.c (.int .i64 1026)), none⟩ ::
⟨some 14, .mov (.t 16), none⟩ ::
[])))
(.cond (.t 14)
(.seq
(.reg (⟨some 17, .load (some 6) (.t 4), none⟩ ::
⟨none, .store 6 (.t 2) (.t 17), none⟩ ::
⟨some 3, .mov (.c (.int .i64 527)), none⟩ ::
[]))
.ret)
(.seq
(.reg (⟨some 19, .mov (.t 6), none⟩ ::
⟨some 20, .bin .eql (.t 19) (.c (.int .i64 1031)), none⟩ ::
⟨some 18, .mov (.t 20), none⟩ ::
[]))
(.cond (.t 18)
(.seq
(.keep [2, 4]
(.reg (⟨some 21, .load (some 6) (.t 4), none⟩ ::
⟨none, .store 6 (.t 2) (.t 21), none⟩ ::
⟨some 3, .mov (.c (.int .i64 526)), none⟩ ::
[])))
.ret)
(.seq
(.keep [0, 2, 4, 5, 6]
(.reg (⟨some 23, .mov (.t 6), none⟩ ::
⟨some 24, .bin .neq (.t 23) (.c (.int .i64 0)), none⟩ ::
⟨some 22, .mov (.t 24), none⟩ ::
[])))
(.cond (.t 22)
(.seq
(.reg (⟨some 25, .load (some 6) (.t 4), none⟩ ::
⟨none, .store 6 (.t 2) (.t 25), none⟩ ::
⟨some 3, .mov (.c (.int .i64 528)), none⟩ ::
[]))
.ret)
(.seq
(.keep [0, 2, 4, 5]
(.reg (⟨some 27, .fieldAddr 0 (.t 4), none⟩ ::
⟨some 28, .load none (.t 27), none⟩ ::
⟨some 29, .bin .neq (.t 28) (.c (.int .i64 32768)), none⟩ ::
⟨some 30, .mov (.t 29), none⟩ ::
⟨some 31, .fieldAddr 1 (.t 4), some (30, false)⟩ ::
⟨some 32, .load none (.t 31), some (30, false)⟩ ::
⟨some 33, .call false (.f 91) [(.t 32)], some (30, false)⟩ ::
⟨some 34, .un .not (.t 33), some (30, false)⟩ ::
⟨some 35, .pick (.t 30) (.c (.kb true)) (.t 34), none⟩ ::
⟨some 26, .mov (.t 35), none⟩ ::
[])))
(.cond (.t 26)
(.seq
(.keep [2, 4]
(.reg (⟨some 36, .load (some 6) (.t 4), none⟩ ::
⟨none, .store 6 (.t 2) (.t 36), none⟩ ::
⟨some 3, .mov (.c (.int .i64 526)), none⟩ ::
[])))
.ret)
(.seq
(.keep [0, 2, 4, 5]
(.reg (⟨some 38, .fieldAddr 2 (.t 4), none⟩ ::
⟨some 39, .load none (.t 38), none⟩ ::
⟨some 37, .mov (.t 39), none⟩ ::
[])))
(.cond (.t 37)
(.seq
(.reg (⟨some 40, .load (some 6) (.t 4), none⟩ ::
⟨none, .store 6 (.t 2) (.t 40), none⟩ ::
⟨some 3, .mov (.c (.int .i64 528)), none⟩ ::
[]))
.ret)
(.seq
(.keep [0, 2, 4, 5]
(.reg (⟨some 42, .mov (.t 0), none⟩ ::
⟨some 43, .len (.t 42), none⟩ ::
⟨some 44, .mov (.t 5), none⟩ ::
⟨some 45, .bin .add (.t 44) (.c (.int .i64 8)), none⟩ ::
⟨some 46, .bin .geq (.t 43) (.t 45), none⟩ ::
⟨some 47, .mov (.t 46), none⟩ ::
⟨some 48, .mov (.t 0), some (47, false)⟩ ::
⟨some 49, .len (.t 48), some (47, false)⟩ ::
⟨some 50, .mov (.t 5), some (47, false)⟩ ::
⟨some 51, .bin .lss (.t 49) (.t 50), some (47, false)⟩ ::
⟨some 52, .pick (.t 47) (.c (.kb true)) (.t 51), none⟩ ::
⟨some 41, .mov (.t 52), none⟩ ::
[])))
(.cond (.t 41)
(.seq
(.keep [2, 4]
(.reg (⟨some 53, .load (some 6) (.t 4), none⟩ ::
⟨none, .store 6 (.t 2) (.t 53), none⟩ ::
⟨some 3, .mov (.c (.int .i64 527)), none⟩ ::
[])))
.ret)
.skip)))))))))))))
(.seq
(.seq
(.keep [0, 2, 4, 5]
(.reg (⟨some 54, .mov (.t 5), none⟩ ::
⟨some 7, .mov (.t 54), none⟩ ::
[])))
(.block 1
(.loop
(.seq
(.seq
(.keep [0, 2, 4, 7]
(.reg (⟨some 55, .mov (.t 7), none⟩ ::
⟨some 56, .mov (.t 0), none⟩ ::
⟨some 57, .len (.t 56), none⟩ ::
⟨some 58, .bin .lss (.t 55) (.t 57), none⟩ ::
[])))
(.cond (.t 58)
.skip
(.exit 1)))
(.seq
(.block 2
(.seq
(.keep [0, 2, 4, 7]
(.reg (⟨some 61, .mov (.t 0), none⟩ ::
⟨some 62, .mov (.t 7), none⟩ ::
⟨some 63, .indexSl 1 (.t 61) (.t 62), none⟩ ::
⟨some 64, .load none (.t 63), none⟩ ::
⟨some 65, .bin .neq (.t 64) (.c (.int .u8 0)), none⟩ ::
[])))
(.cond (.t 65)
(.seq
(.reg (⟨some 66, .load (some 6) (.t 4), none⟩ ::
⟨none, .store 6 (.t 2) (.t 66), none⟩ ::
⟨some 3, .mov (.c (.int .i64 528)), none⟩ ::
[]))
.ret)
.skip)))
(.keep [0, 2, 4, 7]
(.reg (⟨some 59, .mov (.t 7), none⟩ ::
⟨some 60, .bin .add (.t 59) (.c (.int .i64 1)), none⟩ ::
⟨some 7, .mov (.t 60), none⟩ ::
[]))))))))
(.seq
(.keep [2, 4]
(.reg (⟨some 67, .load (some 6) (.t 4), none⟩ ::
⟨none, .store 6 (.t 2) (.t 67), none⟩ ::
⟨some 3, .mov (.c (.int .i64 0)), none⟩ ::
[])))
.ret)))))
def rd_r12_set : List RD := [.cell 2 (some 6) true [], .tmp 3 true none]
theorem ok_r12_set : fnOk Tryz.prog Tryz.f55 ir_r12_set rd_r12_set = true := by kernel_rfl
def S_r12_set : List AV → List Obj → Option (Prop × AV)
  | [.imm (.int .u8) b], [] => some ((b.length ≤ 140737, .tup [.agg [.int .i64 (rI b (decC b)), .int .i64 (rI b (decF b)), .bool ((if rE b = 0 then decH b else false)), .int .u64 (rI b (decX b)), .imm (.int .u8) (rR b (decV b)), .imm (.int .u8) (rR b (decM b))], .int .i64 (setE b)]))
  | _, _ => none
theorem snd_r12_set : SoundS Tryz.prog 55 (RoF S_r12_set).sum := by
  refine ro_fn Tryz.func55 ok_r12_set (env_cons (s := RoF S_r08_Decode) snd_r08_Decode (env_cons (s := RoF S_r07_Settable) snd_r07_Settable (env_nil _))) fun args objs p v e => ?_
  unfold S_r12_set at e
  split at e
  · rename_i b
    cases e
    refine ⟨rfl, fun hw ho hp => ?_⟩
    change List Int at b
    have hb : ∀ x ∈ (b : List Int), (0 : Int) ≤ x ∧ x ≤ 255 := fun x hx => (hw (.imm (.int .u8) b) (by simp)).1 x hx
    clear hw ho
    have hdl := dec_law hb
    by_cases h0 : rE b = 0
    · obtain ⟨_, _, hN, hNl⟩ := enc_dec hb (hdl.trans h0)
      have hS : setE b = if ¬ (decC b = 32768 ∧ settF (decF b) = true) then 526 else if decH b = true then 528 else if decN b + 8 ≤ b.length then 527 else if zeroL (b.drop (decN b).toNat) = true then 0 else 528 := if_pos (hdl.trans h0)
      obtain ⟨i1, i2⟩ := rI_0 h0
      rw [i1, i1, i1, i2, i2, if_pos h0]
      repeat' (intro t ht; first | (cases t <;> first | (cases ht; done) | ((try simp only [Bool.not_eq_eq_eq_not, Bool.not_true, Bool.not_false, Bool.and_eq_true, Bool.and_eq_false_iff, decide_eq_true_eq, decide_eq_false_iff_not] at ht); (try simp only [Int.toNat_natCast, dflt_int] at ht))) | (refine ht ?_ ?_ <;> clear ht) | (refine ht.1 ?_ ?_ <;> clear ht) | (refine ht ?_; clear ht))
      all_goals first
        | exact True.intro
        | omega
        | contradiction
        | (intro r h1 h2; clear h1; refine h2 ⟨[0, 2, 4, 7], Nat, (fun i => i ≤ b.length ∧ zeroL (b.drop (decN b).toNat) = zeroL (b.drop i)), fun i => [.imm (.int .u8) b, .ptr 0 0, .ptr 1 0, .int .i64 i], fun _ => [.box [.int .i64 0, .int .i64 0, .bool false, .int .u64 0, .imm (.int .u8) [], .imm (.int .u8) []], .box [.int .i64 (decC b), .int .i64 (decF b), .bool (decH b), .int .u64 (decX b), .imm (.int .u8) (decV b), .imm (.int .u8) (decM b)]], fun i => b.length - i, ⟨(decN b).toNat, ⟨by omega, rfl⟩, (by simp only [i1, Int.toNat_of_nonneg hN]; try rfl), (by simp only [i1, i2, h0, if_true]; try rfl)⟩, ?_⟩; clear h2)
        | (simp only [i1, min_i64, max_i64]; omega)
        | (exfalso; simp only [i1] at *; omega)
        | (have hS2 := hS; simp only [i1, i2, if_pos h0] at *; rw [hS2]; simp_all; done)
        | trace_state
      rintro i ⟨hi, he⟩
      (try dsimp only at hi he)
      repeat' (intro t ht; first | (cases t <;> first | (cases ht; done) | ((try simp only [Bool.not_eq_eq_eq_not, Bool.not_true, Bool.not_false, Bool.and_eq_true, Bool.and_eq_false_iff, decide_eq_true_eq, decide_eq_false_iff_not] at ht); (try simp only [Int.toNat_natCast, dflt_int] at ht))) | (refine ht ?_ ?_ <;> clear ht) | (refine ht.1 ?_ ?_ <;> clear ht) | (refine ht ?_; clear ht))
      all_goals (try simp only [i1, if_pos h0] at *)
      all_goals first
        | exact True.intro
        | omega
        | ((try simp only [Int.toNat_natCast, dflt_int, decide_eq_true_eq, decide_eq_false_iff_not, Bool.not_eq_eq_eq_not, Bool.not_true, Bool.not_false, Bool.and_eq_true, Bool.and_eq_false_iff, min_i64, max_i64, min_u64, max_u64, min_u32, max_u32, min_u16, max_u16, min_u8, max_u8] at *); omega)
        | (have hge : b.length ≤ i := by omega
           rw [List.drop_of_length_le hge] at he
           have hS0 : setE b = 0 := by
             rw [hS, if_neg (not_not_intro ⟨by assumption, by assumption⟩), if_neg (show ¬ decH b = true from fun h => by simp_all), if_neg (by assumption), he]; rfl
           rw [hS0]; exact ⟨rfl, by first | rfl | exact True.intro⟩)
        | (have hlt : i < b.length := by omega
           rw [drop_step hlt 0] at he
           unfold zeroL at he
           rw [List.all_cons] at he
           first
             | (have hk : decide (b.getD i 0 = 0) = true := decide_eq_true (by assumption)
                rw [hk, Bool.true_and] at he
                exact ⟨i + 1, ⟨hlt, he⟩, by omega, rfl, by first | rfl | exact True.intro⟩)
             | (have hk : decide (b.getD i 0 = 0) = false := decide_eq_false (by assumption)
                rw [hk, Bool.false_and] at he
                have hS0 : setE b = 528 := by
                  rw [hS, if_neg (not_not_intro ⟨by assumption, by assumption⟩), if_neg (show ¬ decH b = true from fun h => by simp_all), if_neg (by assumption)]
                  unfold zeroL; rw [he]; rfl
                rw [hS0]; exact ⟨rfl, by first | rfl | exact True.intro⟩))
        | trace_state
    · have hd0 : ¬ decE b = 0 := fun h => h0 (hdl.symm.trans h)
      have hS : setE b = if decE b = 1026 then 527 else if decE b = 1031 then 526 else 528 := if_neg hd0
      rw [hdl] at hS
      repeat' (intro t ht; first | (cases t <;> first | (cases ht; done) | ((try simp only [Bool.not_eq_eq_eq_not, Bool.not_true, Bool.not_false, Bool.and_eq_true, Bool.and_eq_false_iff, decide_eq_true_eq, decide_eq_false_iff_not] at ht); (try simp only [Int.toNat_natCast, dflt_int] at ht); (try (exfalso; first | contradiction | omega)))) | (refine ht ?_ ?_ <;> clear ht) | (refine ht.1 ?_ ?_ <;> clear ht) | (refine ht ?_; clear ht))
      all_goals first
        | exact True.intro
        | omega
        | contradiction
        | (have hS2 := hS; rw [if_pos (show rE b = 1026 by assumption)] at hS2; rw [hS2]; exact ⟨rfl, by first | rfl | exact True.intro⟩)
        | (have hS2 := hS; rw [if_neg (show ¬ rE b = 1026 by assumption), if_pos (show rE b = 1031 by assumption)] at hS2; rw [hS2]; exact ⟨rfl, by first | rfl | exact True.intro⟩)
        | (have hS2 := hS; rw [if_neg (show ¬ rE b = 1026 by assumption), if_neg (show ¬ rE b = 1031 by assumption)] at hS2; rw [hS2]; exact ⟨rfl, by first | rfl | exact True.intro⟩)
        | trace_state
  · cases e
end Go.Eng
