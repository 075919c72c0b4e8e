/- Contracts of functions of the given program, told by plain Lean functions. No condition. -/
import Derived.Test.YtoejpijobbcooaaGreatDoorProg
import Derived.Test.YtoejpijobbcooaaGreatDoorEArg
import Derived.KernelRfl
import Derived.Test.YtoejpijobbcooaaGreatDoorA8
namespace Go.Eng
open Go.Proofs
set_option linter.unusedVariables false
set_option linter.unusedSimpArgs false
set_option maxRecDepth 100000
set_option maxHeartbeats 1000000
theorem ac_bad {b : List Int} (h : acE b ≠ 0) : (∀ x, acI b x = 0) ∧ (∀ k, acA b k = 0) ∧ (∀ x, acS b x = 0) ∧ acH b = false ∧ (∀ l, acV b l = []) ∧ acD b = [] := by
  have hI : ∀ x, acI b x = 0 := fun x => if_neg h
  refine ⟨hI, fun k => hI _, fun x => hI _, ?_, fun l => if_neg h, if_neg h⟩
  unfold acH; rw [decide_eq_false h]; rfl
theorem ac_set {b : List Int} (h : acE b = 0) (h25 : tT b = 25) : (∀ x, acI b x = x) ∧ (∀ k, acA b k = 0) ∧ (∀ x, acS b x = x) ∧ acH b = decH (bd b) ∧ (∀ l, acV b l = l) ∧ acD b = [] := by
  have hI : ∀ x, acI b x = x := fun x => if_pos h
  refine ⟨hI, fun k => (hI _).trans (if_pos h25), fun x => (hI _).trans (if_pos h25), ?_, fun l => (if_pos h).trans (if_pos h25), (if_pos h).trans (if_pos h25)⟩
  unfold acH; rw [decide_eq_true h, decide_eq_true h25]; rfl
theorem ac_row {b : List Int} (h : acE b = 0) (h25 : ¬ tT b = 25) : (∀ x, acI b x = x) ∧ (∀ k, acA b k = (getL (rowT (tT b)) (bd b)).getD k 0) ∧ (∀ x, acS b x = 0) ∧ acH b = false ∧ (∀ l, acV b l = []) ∧ acD b = (bd b).drop (sizeW (rowT (tT b))).toNat := by
  have hI : ∀ x, acI b x = x := fun x => if_pos h
  refine ⟨hI, fun k => (hI _).trans (if_neg h25), fun x => (hI _).trans (if_neg h25), ?_, fun l => (if_pos h).trans (if_neg h25), (if_pos h).trans (if_neg h25)⟩
  unfold acH; rw [decide_eq_false h25]; simp
theorem bd_le {b : List Int} (hb : ∀ x ∈ b, 0 ≤ x ∧ x ≤ 255) : (bd b).length ≤ 65535 := by
  have := num2_le (a := 2) hb
  unfold bd tN; rw [List.length_drop, List.length_take]; omega
def ir_action_Decode : IR :=
(.seq
(.keep [0]
(.reg (⟨some 2, .box [.int .i64 0, .int .u64 0, .int .u64 0, .int .i64 0, .int .i64 0, .kb false, .int .u64 0, .imm (.int .u8) [], .imm (.int .u8) [], .imm (.int .u8) []], none⟩ ::
⟨some 3, .mov (.c (.int .i64 0)), none⟩ ::
⟨some 4, .mov (.c (.int .i64 0)), none⟩ ::
[])))
(.seq
(.keep [0, 2]
(.reg (⟨some 12, .build [.int .i64 0, .int .i64 0, .kb false, .int .i64 0, .int .i64 0] [(0, 1, (.c (.int .i64 8))), (1, 1, (.c (.int .i64 8))), (3, 1, (.c (.int .i64 514))), (4, 1, (.c (.int .i64 514)))], none⟩ ::
⟨some 13, .mov (.t 0), none⟩ ::
⟨some 14, .call false (.f 51) [(.t 12), (.t 13)], none⟩ ::
⟨some 11, .mov (.t 14), none⟩ ::
⟨some 15, .extract (.t 11) 0, none⟩ ::
⟨some 16, .extract (.t 11) 1, none⟩ ::
⟨some 17, .extract (.t 11) 2, none⟩ ::
⟨some 5, .box [.int .i64 0, .imm (.int .u8) []], none⟩ ::
⟨none, .store 2 (.t 5) (.t 15), none⟩ ::
⟨some 6, .mov (.t 16), none⟩ ::
⟨some 7, .mov (.t 17), none⟩ ::
[])))
(.seq
(.seq
(.keep [2, 5, 6, 7]
(.reg (⟨some 18, .mov (.t 7), none⟩ ::
⟨some 19, .bin .neq (.t 18) (.c (.int .i64 0)), none⟩ ::
[])))
(.cond (.t 19)
(.seq
(.reg (⟨some 20, .build [.int .i64 0, .int .u64 0, .int .u64 0, .int .i64 0, .int .i64 0, .kb false, .int .u64 0, .imm (.int .u8) [], .imm (.int .u8) [], .imm (.int .u8) []] [], none⟩ ::
⟨some 21, .mov (.t 7), none⟩ ::
⟨none, .store 10 (.t 2) (.t 20), none⟩ ::
⟨some 3, .mov (.c (.int .i64 0)), none⟩ ::
⟨some 4, .mov (.t 21), none⟩ ::
[]))
.ret)
.skip))
(.seq
(.keep [2, 5, 6]
(.reg (⟨some 22, .fieldAddr 0 (.t 5), none⟩ ::
⟨some 23, .load none (.t 22), none⟩ ::
⟨some 24, .build [.int .i64 0, .int .u64 0, .int .u64 0, .int .i64 0, .int .i64 0, .kb false, .int .u64 0, .imm (.int .u8) [], .imm (.int .u8) [], .imm (.int .u8) []] [(0, 1, (.t 23))], none⟩ ::
⟨some 8, .box [.int .i64 0, .int .u64 0, .int .u64 0, .int .i64 0, .int .i64 0, .kb false, .int .u64 0, .imm (.int .u8) [], .imm (.int .u8) [], .imm (.int .u8) []], none⟩ ::
⟨none, .store 10 (.t 8) (.t 24), none⟩ ::
[])))
(.seq
(.keep [2, 5, 6, 8]
(.reg (⟨some 26, .fieldAddr 0 (.t 5), none⟩ ::
⟨some 27, .load none (.t 26), none⟩ ::
⟨some 28, .call false (.f 41) [(.t 27)], none⟩ ::
⟨some 25, .mov (.t 28), none⟩ ::
⟨some 29, .extract (.t 25) 0, none⟩ ::
⟨some 30, .extract (.t 25) 1, none⟩ ::
⟨some 9, .mov (.t 29), none⟩ ::
⟨some 10, .mov (.t 30), none⟩ ::
[])))
(.seq
(.block 0
(.seq
(.keep [2, 5, 6, 8, 9, 10]
(.reg (⟨some 32, .fieldAddr 0 (.t 5), none⟩ ::
⟨some 33, .load none (.t 32), none⟩ ::
⟨some 34, .bin .eql (.t 33) (.c (.int .i64 25)), none⟩ ::
⟨some 31, .mov (.t 34), none⟩ ::
[])))
(.cond (.t 31)
(.keep [2, 5, 6, 8]
(.reg (⟨some 36, .fieldAddr 1 (.t 5), none⟩ ::
⟨some 37, .load none (.t 36), none⟩ ::
⟨some 38, .call false (.f 52) [(.t 37)], none⟩ ::
⟨some 35, .mov (.t 38), none⟩ ::
⟨some 39, .extract (.t 35) 0, none⟩ ::
⟨some 40, .extract (.t 35) 1, none⟩ ::
⟨some 41, .fieldAddr 3 (.t 8), none⟩ ::
⟨none, .store 6 (.t 41) (.t 39), none⟩ ::
⟨some 7, .mov (.t 40), none⟩ ::
[])))
(.seq
(.reg (⟨some 43, .mov (.t 10), none⟩ ::
⟨some 42, .mov (.t 43), none⟩ ::
[]))
(.cond (.t 42)
(.keep [2, 5, 6, 8, 9]
(.reg (⟨some 45, .load (some 10) (.t 8), none⟩ ::
⟨some 46, .mov (.t 9), none⟩ ::
⟨some 47, .fieldAddr 1 (.t 5), none⟩ ::
⟨some 48, .load none (.t 47), none⟩ ::
⟨some 49, .call false (.f 53) [(.t 45), (.t 46), (.t 48)], none⟩ ::
⟨some 44, .mov (.t 49), none⟩ ::
⟨some 50, .extract (.t 44) 0, none⟩ ::
⟨some 51, .extract (.t 44) 1, none⟩ ::
⟨none, .store 10 (.t 8) (.t 50), none⟩ ::
⟨some 7, .mov (.t 51), none⟩ ::
[])))
(.keep [2, 6, 8]
(.reg (⟨some 7, .mov (.c (.int .i64 513)), none⟩ ::
[]))))))))
(.seq
(.seq
(.keep [2, 6, 7, 8]
(.reg (⟨some 52, .mov (.t 7), none⟩ ::
⟨some 53, .bin .neq (.t 52) (.c (.int .i64 0)), none⟩ ::
[])))
(.cond (.t 53)
(.seq
(.reg (⟨some 54, .build [.int .i64 0, .int .u64 0, .int .u64 0, .int .i64 0, .int .i64 0, .kb false, .int .u64 0, .imm (.int .u8) [], .imm (.int .u8) [], .imm (.int .u8) []] [], none⟩ ::
⟨some 55, .mov (.t 7), none⟩ ::
⟨none, .store 10 (.t 2) (.t 54), none⟩ ::
⟨some 3, .mov (.c (.int .i64 0)), none⟩ ::
⟨some 4, .mov (.t 55), none⟩ ::
[]))
.ret)
.skip))
(.seq
(.keep [2, 6, 8]
(.reg (⟨some 56, .load (some 10) (.t 8), none⟩ ::
⟨some 57, .mov (.t 6), none⟩ ::
⟨none, .store 10 (.t 2) (.t 56), none⟩ ::
⟨some 3, .mov (.t 57), none⟩ ::
⟨some 4, .mov (.c (.int .i64 0)), none⟩ ::
[])))
.ret))))))))
def rd_action_Decode : List RD := [.cell 2 (some 10) true [], .tmp 3 true none, .tmp 4 true none]
theorem ok_action_Decode : fnOk Tryz.prog Tryz.f15 ir_action_Decode rd_action_Decode = true := by kernel_rfl
def S_action_Decode : List AV → List Obj → Option (Prop × AV)
  | [.imm (.int .u8) b], [] => some ((b.length ≤ 140737488355328, .tup [.agg [.int .i64 (acI b (tT b)), .int .u64 (acA b 0), .int .u64 (acA b 1), .int .i64 (acS b (decC (bd b))), .int .i64 (acS b (decF (bd b))), .bool (acH b), .int .u64 (acS b (decX (bd b))), .imm (.int .u8) (acV b (decV (bd b))), .imm (.int .u8) (acV b (decM (bd b))), .imm (.int .u8) (acD b)], .int .i64 (acI b (tN b)), .int .i64 (acE b)]))
  | _, _ => none
theorem snd_action_Decode : SoundS Tryz.prog 15 (RoF S_action_Decode).sum := by
  refine ro_fn Tryz.func15 ok_action_Decode (env_cons (s := RoF S_tlv_One) snd_tlv_One (env_cons (s := RoF S_action_rows) snd_action_rows (env_cons (s := RoF S_action_set) snd_action_set (env_cons (s := RoF S_action_plain) snd_action_plain (env_nil _))))) fun args objs p v e => ?_
  unfold S_action_Decode at e
  split at e
  · rename_i b
    cases e
    refine ⟨rfl, fun hw ho hp => ?_⟩
    change List Int at b
    have hb : ∀ x ∈ (b : List Int), (0 : Int) ≤ x ∧ x ≤ 255 := fun x hx => (hw (.imm (.int .u8) b) (by simp)).1 x hx
    clear hw ho
    have hbl := bd_le hb
    have hs : (False = False) ∧ (4 ≤ (8 : Int) ∧ (8 : Int) ≤ 60000 ∧ 1 ≤ (8 : Int) ∧ (8 : Int) ≤ 64 ∧ (514 : Int) ≠ 0 ∧ (514 : Int) ≠ 0) := ⟨rfl, by decide, by decide, by decide, by decide, by decide, by decide⟩
    by_cases hT : tlE b 8 8 514 = 0
    · have hI : ∀ x, tlI b 8 8 514 x = x := fun x => if_pos hT
      have hR : tlR b 8 8 514 = bd b := if_pos hT
      by_cases h25 : tT b = 25
      · have hE : acE b = setE (bd b) := by unfold acE; rw [if_neg (not_not_intro hT), if_pos h25]
        by_cases h0 : setE (bd b) = 0
        · have hd0 : decE (bd b) = 0 := Classical.byContradiction fun h => by
            unfold setE at h0; rw [if_neg h] at h0
            split at h0
            · cases h0
            · split at h0 <;> cases h0
          have hdI : ∀ x, decI (bd b) x = x := fun x => if_pos hd0
          have hdR : ∀ l, decR (bd b) l = l := fun l => if_pos hd0
          obtain ⟨n1, n2, n3, n4, n5, n6⟩ := ac_set (hE.trans h0) h25
          rw [n1, n2, n2, n3, n3, n3, n4, n5, n5, n6, n1, hE, h0]
          repeat' (intro t ht; first | (cases t <;> first | (cases ht; done) | ((try simp only [Bool.not_eq_eq_eq_not, Bool.not_true, Bool.not_false, Bool.and_eq_true, Bool.and_eq_false_iff, decide_eq_true_eq, decide_eq_false_iff_not] at ht); (try simp only [Int.toNat_natCast, dflt_int] at ht); (try (exfalso; first | contradiction | omega)))) | (refine ht ?_ ?_ <;> clear ht) | (refine ht.1 ?_ ?_ <;> clear ht) | (refine ht ?_; clear ht))
          all_goals (try simp only [hT, hI, hR, h0, h25, hdI, hdR, if_pos hd0, not_true_eq_false] at *)
          all_goals first
            | exact True.intro
            | omega
            | exact ⟨by first | rfl | exact True.intro, ⟨by decide, by decide, by decide, by decide, by decide, by decide⟩, hp⟩
            | exact ⟨rfl, by first | rfl | exact True.intro⟩
                | exact ⟨True.intro, True.intro⟩
            | trace_state
        · obtain ⟨n1, n2, n3, n4, n5, n6⟩ := ac_bad (b := b) (by rw [hE]; exact h0)
          rw [n1, n2, n2, n3, n3, n3, n4, n5, n5, n6, n1, hE]
          repeat' (intro t ht; first | (cases t <;> first | (cases ht; done) | ((try simp only [Bool.not_eq_eq_eq_not, Bool.not_true, Bool.not_false, Bool.and_eq_true, Bool.and_eq_false_iff, decide_eq_true_eq, decide_eq_false_iff_not] at ht); (try simp only [Int.toNat_natCast, dflt_int] at ht); (try (exfalso; first | contradiction | omega)))) | (refine ht ?_ ?_ <;> clear ht) | (refine ht.1 ?_ ?_ <;> clear ht) | (refine ht ?_; clear ht))
          all_goals (try simp only [hT, hI, hR, h25, not_true_eq_false] at *)
          all_goals first
            | exact True.intro
            | omega
            | exact ⟨by first | rfl | exact True.intro, ⟨by decide, by decide, by decide, by decide, by decide, by decide⟩, hp⟩
            | exact ⟨rfl, by first | rfl | exact True.intro⟩
                | exact ⟨True.intro, True.intro⟩
            | trace_state
      · cases hK : rowK (tT b) with
        | false =>
          have hE : acE b = 513 := by unfold acE; rw [if_neg (not_not_intro hT), if_neg h25, hK]; rfl
          obtain ⟨n1, n2, n3, n4, n5, n6⟩ := ac_bad (b := b) (by rw [hE]; decide)
          rw [n1, n2, n2, n3, n3, n3, n4, n5, n5, n6, n1, hE]
          repeat' (intro t ht; first | (cases t <;> first | (cases ht; done) | ((try simp only [Bool.not_eq_eq_eq_not, Bool.not_true, Bool.not_false, Bool.and_eq_true, Bool.and_eq_false_iff, decide_eq_true_eq, decide_eq_false_iff_not] at ht); (try simp only [Int.toNat_natCast, dflt_int] at ht); (try (exfalso; first | contradiction | omega)))) | (refine ht ?_ ?_ <;> clear ht) | (refine ht.1 ?_ ?_ <;> clear ht) | (refine ht ?_; clear ht))
          all_goals (try simp only [hT, hI, hR, not_true_eq_false] at *)
          all_goals first
            | exact True.intro
            | omega
            | exact ⟨by first | rfl | exact True.intro, ⟨by decide, by decide, by decide, by decide, by decide, by decide⟩, hp⟩
            | exact ⟨rfl, by first | rfl | exact True.intro⟩
                | exact ⟨True.intro, True.intro⟩
            | (exfalso; simp_all; done)
            | trace_state
        | true =>
          have hE : acE b = plE (tT b) (bd b) := by unfold acE; rw [if_neg (not_not_intro hT), if_neg h25, if_pos hK]
          by_cases h0 : plE (tT b) (bd b) = 0
          · obtain ⟨n1, n2, n3, n4, n5, n6⟩ := ac_row (hE.trans h0) h25
            have hm : ¬ (¬ tT b = 65535 ∧ ¬ ((bd b).length : Int) = sizeW (rowT (tT b))) := fun h => by unfold plE at h0; rw [if_pos h] at h0; cases h0
            have hA : ∀ k, plA (tT b) (bd b) k = (getL (rowT (tT b)) (bd b)).getD k 0 := fun k => if_neg hm
            have hD : plD (tT b) (bd b) = (bd b).drop (sizeW (rowT (tT b))).toNat := if_pos h0
            rw [n1, n2, n2, n3, n3, n3, n4, n5, n5, n6, n1, hE, h0]
            repeat' (intro t ht; first | (cases t <;> first | (cases ht; done) | ((try simp only [Bool.not_eq_eq_eq_not, Bool.not_true, Bool.not_false, Bool.and_eq_true, Bool.and_eq_false_iff, decide_eq_true_eq, decide_eq_false_iff_not] at ht); (try simp only [Int.toNat_natCast, dflt_int] at ht); (try (exfalso; first | contradiction | omega)))) | (refine ht ?_ ?_ <;> clear ht) | (refine ht.1 ?_ ?_ <;> clear ht) | (refine ht ?_; clear ht))
            all_goals (try simp only [hT, hI, hR, h0, hA, hD, not_true_eq_false] at *)
            all_goals first
              | exact True.intro
              | omega
              | exact ⟨by first | rfl | exact True.intro, ⟨by decide, by decide, by decide, by decide, by decide, by decide⟩, hp⟩
              | exact ⟨rfl, by first | rfl | exact True.intro⟩
                | exact ⟨True.intro, True.intro⟩
              | exact ⟨trivial, by omega⟩
              | (exfalso; simp_all; done)
              | trace_state
          · obtain ⟨n1, n2, n3, n4, n5, n6⟩ := ac_bad (b := b) (by rw [hE]; exact h0)
            rw [n1, n2, n2, n3, n3, n3, n4, n5, n5, n6, n1, hE]
            repeat' (intro t ht; first | (cases t <;> first | (cases ht; done) | ((try simp only [Bool.not_eq_eq_eq_not, Bool.not_true, Bool.not_false, Bool.and_eq_true, Bool.and_eq_false_iff, decide_eq_true_eq, decide_eq_false_iff_not] at ht); (try simp only [Int.toNat_natCast, dflt_int] at ht); (try (exfalso; first | contradiction | omega)))) | (refine ht ?_ ?_ <;> clear ht) | (refine ht.1 ?_ ?_ <;> clear ht) | (refine ht ?_; clear ht))
            all_goals (try simp only [hT, hI, hR, not_true_eq_false] at *)
            all_goals first
              | exact True.intro
              | omega
              | exact ⟨by first | rfl | exact True.intro, ⟨by decide, by decide, by decide, by decide, by decide, by decide⟩, hp⟩
              | exact ⟨rfl, by first | rfl | exact True.intro⟩
                | exact ⟨True.intro, True.intro⟩
              | exact ⟨trivial, by omega⟩
              | (exfalso; simp_all; done)
              | trace_state
    · have hE : acE b = tlE b 8 8 514 := by unfold acE; rw [if_pos hT]
      obtain ⟨n1, n2, n3, n4, n5, n6⟩ := ac_bad (b := b) (by rw [hE]; exact hT)
      rw [n1, n2, n2, n3, n3, n3, n4, n5, n5, n6, n1, hE]
      repeat' (intro t ht; first | (cases t <;> first | (cases ht; done) | ((try simp only [Bool.not_eq_eq_eq_not, Bool.not_true, Bool.not_false, Bool.and_eq_true, Bool.and_eq_false_iff, decide_eq_true_eq, decide_eq_false_iff_not] at ht); (try simp only [Int.toNat_natCast, dflt_int] at ht); (try (exfalso; first | contradiction | omega)))) | (refine ht ?_ ?_ <;> clear ht) | (refine ht.1 ?_ ?_ <;> clear ht) | (refine ht ?_; clear ht))
      all_goals first
        | exact True.intro
        | exact ⟨by first | rfl | exact True.intro, ⟨by decide, by decide, by decide, by decide, by decide, by decide⟩, hp⟩
        | exact ⟨rfl, by first | rfl | exact True.intro⟩
                | exact ⟨True.intro, True.intro⟩
        | trace_state
  · cases e
def ir_r12_Few : IR :=
(.seq
(.keep [0]
(.reg (⟨some 1, .boxv (.t 0), none⟩ ::
⟨some 2, .mov (.c (.kb false)), none⟩ ::
[])))
(.seq
(.keep [1]
(.reg (⟨some 3, .fieldAddr 3 (.t 1), none⟩ ::
⟨some 4, .load (some 6) (.t 3), none⟩ ::
⟨some 5, .call false (.f 37) [(.t 4)], none⟩ ::
⟨some 6, .mov (.t 5), none⟩ ::
⟨some 7, .fieldAddr 9 (.t 1), some (6, true)⟩ ::
⟨some 8, .load none (.t 7), some (6, true)⟩ ::
⟨some 9, .len (.t 8), some (6, true)⟩ ::
⟨some 10, .bin .leq (.t 9) (.c (.int .i64 500)), some (6, true)⟩ ::
⟨some 11, .pick (.t 6) (.t 10) (.c (.kb false)), none⟩ ::
⟨some 2, .mov (.t 11), none⟩ ::
[])))
.ret))
def rd_r12_Few : List RD := [.tmp 2 true none]
theorem ok_r12_Few : fnOk Tryz.prog Tryz.f8 ir_r12_Few rd_r12_Few = true := by kernel_rfl
def S_r12_Few : List AV → List Obj → Option (Prop × AV)
  | [.agg [.int .i64 q, .int .u64 a, .int .u64 b, .int .i64 c, .int .i64 f, .bool h, .int .u64 x, .imm (.int .u8) v, .imm (.int .u8) m, .imm (.int .u8) d]], [] => some ((True, .bool (decide (v.length ≤ 300) && decide (m.length ≤ 300) && decide (d.length ≤ 500))))
  | _, _ => none
theorem snd_r12_Few : SoundS Tryz.prog 8 (RoF S_r12_Few).sum := by
  refine ro_fn Tryz.func8 ok_r12_Few (env_cons (s := RoF S_r08_Few) snd_r08_Few (env_nil _)) fun args objs p v e => ?_
  unfold S_r12_Few at e
  split at e
  · rename_i q a b c f h x v m d
    cases e
    refine ⟨rfl, fun hw ho hp => ?_⟩
    change List Int at v
    change List Int at m
    change List Int at d
    clear hw ho
    repeat' (intro t ht; first | (cases t <;> first | (cases ht; done) | ((try simp only [Bool.not_eq_eq_eq_not, Bool.not_true, Bool.not_false, Bool.and_eq_true, Bool.and_eq_false_iff, decide_eq_true_eq, decide_eq_false_iff_not] at ht); (try simp only [Int.toNat_natCast, dflt_int] at ht); (try (exfalso; first | contradiction | omega)))) | (refine ht ?_ ?_ <;> clear ht) | (refine ht.1 ?_ ?_ <;> clear ht) | (refine ht ?_; clear ht))
    all_goals first
      | exact True.intro
      | (refine ⟨congrArg AV.bool ?_, rfl⟩; simp_all; done)
      | (refine ⟨congrArg AV.bool ?_, rfl⟩; simp_all; omega)
      | trace_state
  · cases e
def ir_r12_Same : IR :=
(.seq
(.keep [0, 1]
(.reg (⟨some 2, .boxv (.t 0), none⟩ ::
⟨some 3, .boxv (.t 1), none⟩ ::
⟨some 4, .mov (.c (.kb false)), none⟩ ::
[])))
(.seq
(.keep [2, 3]
(.reg (⟨some 5, .fieldAddr 0 (.t 2), none⟩ ::
⟨some 6, .load none (.t 5), none⟩ ::
⟨some 7, .fieldAddr 0 (.t 3), none⟩ ::
⟨some 8, .load none (.t 7), none⟩ ::
⟨some 9, .bin .eql (.t 6) (.t 8), none⟩ ::
⟨some 10, .mov (.t 9), none⟩ ::
⟨some 11, .fieldAddr 1 (.t 2), some (10, true)⟩ ::
⟨some 12, .load none (.t 11), some (10, true)⟩ ::
⟨some 13, .fieldAddr 1 (.t 3), some (10, true)⟩ ::
⟨some 14, .load none (.t 13), some (10, true)⟩ ::
⟨some 15, .bin .eql (.t 12) (.t 14), some (10, true)⟩ ::
⟨some 16, .pick (.t 10) (.t 15) (.c (.kb false)), none⟩ ::
⟨some 17, .mov (.t 16), none⟩ ::
⟨some 18, .fieldAddr 2 (.t 2), some (17, true)⟩ ::
⟨some 19, .load none (.t 18), some (17, true)⟩ ::
⟨some 20, .fieldAddr 2 (.t 3), some (17, true)⟩ ::
⟨some 21, .load none (.t 20), some (17, true)⟩ ::
⟨some 22, .bin .eql (.t 19) (.t 21), some (17, true)⟩ ::
⟨some 23, .pick (.t 17) (.t 22) (.c (.kb false)), none⟩ ::
⟨some 24, .mov (.t 23), none⟩ ::
⟨some 25, .fieldAddr 3 (.t 2), some (24, true)⟩ ::
⟨some 26, .load (some 6) (.t 25), some (24, true)⟩ ::
⟨some 27, .fieldAddr 3 (.t 3), some (24, true)⟩ ::
⟨some 28, .load (some 6) (.t 27), some (24, true)⟩ ::
⟨some 29, .call false (.f 60) [(.t 26), (.t 28)], some (24, true)⟩ ::
⟨some 30, .pick (.t 24) (.t 29) (.c (.kb false)), none⟩ ::
⟨some 31, .mov (.t 30), none⟩ ::
⟨some 32, .fieldAddr 9 (.t 2), some (31, true)⟩ ::
⟨some 33, .load none (.t 32), some (31, true)⟩ ::
⟨some 34, .fieldAddr 9 (.t 3), some (31, true)⟩ ::
⟨some 35, .load none (.t 34), some (31, true)⟩ ::
⟨some 36, .call false (.f 14) [(.t 33), (.t 35)], some (31, true)⟩ ::
⟨some 37, .pick (.t 31) (.t 36) (.c (.kb false)), none⟩ ::
⟨some 4, .mov (.t 37), none⟩ ::
[])))
.ret))
def rd_r12_Same : List RD := [.tmp 4 true none]
theorem ok_r12_Same : fnOk Tryz.prog Tryz.f17 ir_r12_Same rd_r12_Same = true := by kernel_rfl
def S_r12_Same : List AV → List Obj → Option (Prop × AV)
  | [.agg [.int .i64 q, .int .u64 a, .int .u64 b, .int .i64 c, .int .i64 f, .bool h, .int .u64 x, .imm (.int .u8) v, .imm (.int .u8) m, .imm (.int .u8) d], .agg [.int .i64 q', .int .u64 a', .int .u64 b', .int .i64 c', .int .i64 f', .bool h', .int .u64 x', .imm (.int .u8) v', .imm (.int .u8) m', .imm (.int .u8) d']], [] => some ((True, .bool (sameA q a b c f h x v m d q' a' b' c' f' h' x' v' m' d')))
  | _, _ => none
theorem snd_r12_Same : SoundS Tryz.prog 17 (RoF S_r12_Same).sum := by
  refine ro_fn Tryz.func17 ok_r12_Same (env_cons (s := RoF S_r08_Same) snd_r08_Same (env_cons (s := RoF S_r01_Bytes) snd_r01_Bytes (env_nil _))) fun args objs p v e => ?_
  unfold S_r12_Same at e
  split at e
  · rename_i q a b c f h x v m d q' a' b' c' f' h' x' v' m' d'
    cases e
    refine ⟨rfl, fun hw ho hp => ?_⟩
    change List Int at v
    change List Int at m
    change List Int at d
    change List Int at v
    change List Int at m
    change List Int at d
    clear hw ho
    repeat' (intro t ht; first | (cases t <;> first | (cases ht; done) | ((try simp only [Bool.not_eq_eq_eq_not, Bool.not_true, Bool.not_false, Bool.and_eq_true, Bool.and_eq_false_iff, decide_eq_true_eq, decide_eq_false_iff_not] at ht); (try simp only [Int.toNat_natCast, dflt_int] at ht); (try (exfalso; first | contradiction | omega)))) | (refine ht ?_ ?_ <;> clear ht) | (refine ht.1 ?_ ?_ <;> clear ht) | (refine ht ?_; clear ht))
    all_goals first
      | exact True.intro
      | (refine ⟨congrArg AV.bool ?_, rfl⟩; unfold sameA; simp_all; done)
      | trace_state
  · cases e
end Go.Eng
