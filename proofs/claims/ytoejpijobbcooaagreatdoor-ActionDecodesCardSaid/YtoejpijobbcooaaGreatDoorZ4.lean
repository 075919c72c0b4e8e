/- Contracts of functions of the given program, told by plain Lean functions. No condition. -/
import Derived.Test.YtoejpijobbcooaaGreatDoorProg
import Derived.Test.YtoejpijobbcooaaGreatDoorEArg
import Derived.KernelRfl
import Derived.Test.YtoejpijobbcooaaGreatDoorZ3
namespace Go.Eng
open Go.Proofs
set_option linter.unusedVariables false
set_option linter.unusedSimpArgs false
set_option maxRecDepth 100000
set_option maxHeartbeats 1000000
set_option maxHeartbeats 8000000
def ir_r12_Decode : IR :=
(.seq
(.keep [0]
(.reg (⟨some 2, .box [.int .i64 0, .int .u64 0, .int .u64 0, .int .i64 0, .int .i64 0, .kb false, .int .u64 0, .nils, .nils, .nils], none⟩ ::
⟨some 3, .mov (.c (.int .i64 0)), none⟩ ::
⟨some 4, .mov (.c (.int .i64 0)), none⟩ ::
[])))
(.seq
(.keep [0, 2]
(.reg (⟨some 18, .build [.int .i64 0, .int .i64 0, .kb false, .int .i64 0, .int .i64 0] [(0, 1, (.c (.int .i64 8))), (1, 1, (.c (.int .i64 8))), (3, 1, (.c (.int .i64 514))), (4, 1, (.c (.int .i64 514)))], none⟩ ::
⟨some 19, .mov (.t 0), none⟩ ::
⟨some 20, .call false (.f 54) [(.t 18), (.t 19)], none⟩ ::
⟨some 17, .mov (.t 20), none⟩ ::
⟨some 21, .extract (.t 17) 0, none⟩ ::
⟨some 22, .extract (.t 17) 1, none⟩ ::
⟨some 23, .extract (.t 17) 2, none⟩ ::
⟨some 5, .box [.int .i64 0, .nils], none⟩ ::
⟨none, .store 2 (.t 5) (.t 21), none⟩ ::
⟨some 6, .mov (.t 22), none⟩ ::
⟨some 7, .mov (.t 23), none⟩ ::
[])))
(.seq
(.seq
(.keep [2, 5, 6, 7]
(.reg (⟨some 24, .mov (.t 7), none⟩ ::
⟨some 25, .bin .neq (.t 24) (.c (.int .i64 0)), none⟩ ::
[])))
(.cond (.t 25)
(.seq
(.reg (⟨some 26, .build [.int .i64 0, .int .u64 0, .int .u64 0, .int .i64 0, .int .i64 0, .kb false, .int .u64 0, .nils, .nils, .nils] [], none⟩ ::
⟨some 27, .mov (.t 7), none⟩ ::
⟨none, .store 10 (.t 2) (.t 26), none⟩ ::
⟨some 3, .mov (.c (.int .i64 0)), none⟩ ::
⟨some 4, .mov (.t 27), none⟩ ::
[]))
.ret)
.skip))
(.seq
(.keep [2, 5, 6]
(.reg (⟨some 28, .fieldAddr 0 (.t 5), none⟩ ::
⟨some 29, .load none (.t 28), none⟩ ::
⟨some 30, .build [.int .i64 0, .int .u64 0, .int .u64 0, .int .i64 0, .int .i64 0, .kb false, .int .u64 0, .nils, .nils, .nils] [(0, 1, (.t 29))], none⟩ ::
⟨some 8, .box [.int .i64 0, .int .u64 0, .int .u64 0, .int .i64 0, .int .i64 0, .kb false, .int .u64 0, .nils, .nils, .nils], none⟩ ::
⟨none, .store 10 (.t 8) (.t 30), none⟩ ::
[])))
(.seq
(.seq
(.reg (⟨some 31, .fieldAddr 0 (.t 8), none⟩ ::
⟨some 32, .load none (.t 31), none⟩ ::
⟨some 33, .bin .eql (.t 32) (.c (.int .i64 25)), none⟩ ::
[]))
(.cond (.t 33)
(.seq
(.keep [2, 5, 6, 8]
(.reg (⟨some 35, .fieldAddr 1 (.t 5), none⟩ ::
⟨some 36, .load none (.t 35), none⟩ ::
⟨some 37, .call false (.f 55) [(.t 36)], none⟩ ::
⟨some 34, .mov (.t 37), none⟩ ::
⟨some 38, .extract (.t 34) 0, none⟩ ::
⟨some 39, .extract (.t 34) 1, none⟩ ::
⟨some 9, .box [.int .i64 0, .int .i64 0, .kb false, .int .u64 0, .nils, .nils], none⟩ ::
⟨none, .store 6 (.t 9) (.t 38), none⟩ ::
⟨some 10, .mov (.t 39), none⟩ ::
[])))
(.seq
(.seq
(.keep [2, 6, 8, 9, 10]
(.reg (⟨some 40, .mov (.t 10), none⟩ ::
⟨some 41, .bin .neq (.t 40) (.c (.int .i64 0)), none⟩ ::
[])))
(.cond (.t 41)
(.seq
(.reg (⟨some 42, .build [.int .i64 0, .int .u64 0, .int .u64 0, .int .i64 0, .int .i64 0, .kb false, .int .u64 0, .nils, .nils, .nils] [], none⟩ ::
⟨some 43, .mov (.t 10), none⟩ ::
⟨none, .store 10 (.t 2) (.t 42), none⟩ ::
⟨some 3, .mov (.c (.int .i64 0)), none⟩ ::
⟨some 4, .mov (.t 43), none⟩ ::
[]))
.ret)
.skip))
(.seq
(.keep [2, 6, 8, 9]
(.reg (⟨some 44, .load (some 6) (.t 9), none⟩ ::
⟨some 45, .fieldAddr 3 (.t 8), none⟩ ::
⟨none, .store 6 (.t 45) (.t 44), none⟩ ::
[])))
(.seq
(.reg (⟨some 46, .load (some 10) (.t 8), none⟩ ::
⟨some 47, .mov (.t 6), none⟩ ::
⟨none, .store 10 (.t 2) (.t 46), none⟩ ::
⟨some 3, .mov (.t 47), none⟩ ::
⟨some 4, .mov (.c (.int .i64 0)), none⟩ ::
[]))
.ret))))
.skip))
(.seq
(.keep [2, 5, 6, 8]
(.reg (⟨some 49, .fieldAddr 0 (.t 8), none⟩ ::
⟨some 50, .load none (.t 49), none⟩ ::
⟨some 51, .call false (.f 56) [(.t 50)], none⟩ ::
⟨some 48, .mov (.t 51), none⟩ ::
⟨some 52, .extract (.t 48) 0, none⟩ ::
⟨some 53, .extract (.t 48) 1, none⟩ ::
⟨some 11, .mov (.t 52), none⟩ ::
⟨some 12, .mov (.t 53), none⟩ ::
[])))
(.seq
(.seq
(.keep [2, 5, 6, 8, 11, 12]
(.reg (⟨some 54, .mov (.t 12), none⟩ ::
⟨some 55, .un .not (.t 54), none⟩ ::
[])))
(.cond (.t 55)
(.seq
(.reg (⟨some 56, .build [.int .i64 0, .int .u64 0, .int .u64 0, .int .i64 0, .int .i64 0, .kb false, .int .u64 0, .nils, .nils, .nils] [], none⟩ ::
⟨none, .store 10 (.t 2) (.t 56), none⟩ ::
⟨some 3, .mov (.c (.int .i64 0)), none⟩ ::
⟨some 4, .mov (.c (.int .i64 513)), none⟩ ::
[]))
.ret)
.skip))
(.seq
(.reg (⟨some 57, .mov (.t 11), none⟩ ::
⟨some 58, .call false (.f 57) [(.t 57)], none⟩ ::
⟨some 13, .mov (.t 58), none⟩ ::
[]))
(.seq
(.seq
(.keep [2, 5, 6, 8, 11, 13]
(.reg (⟨some 59, .fieldAddr 0 (.t 8), none⟩ ::
⟨some 60, .load none (.t 59), none⟩ ::
⟨some 61, .bin .neq (.t 60) (.c (.int .i64 65535)), none⟩ ::
⟨some 62, .mov (.t 61), none⟩ ::
⟨some 63, .fieldAddr 1 (.t 5), some (62, true)⟩ ::
⟨some 64, .load none (.t 63), some (62, true)⟩ ::
⟨some 65, .len (.t 64), some (62, true)⟩ ::
⟨some 66, .mov (.t 13), some (62, true)⟩ ::
⟨some 67, .bin .neq (.t 65) (.t 66), some (62, true)⟩ ::
⟨some 68, .pick (.t 62) (.t 67) (.c (.kb false)), none⟩ ::
[])))
(.cond (.t 68)
(.seq
(.keep [2]
(.reg (⟨some 69, .build [.int .i64 0, .int .u64 0, .int .u64 0, .int .i64 0, .int .i64 0, .kb false, .int .u64 0, .nils, .nils, .nils] [], none⟩ ::
⟨none, .store 10 (.t 2) (.t 69), none⟩ ::
⟨some 3, .mov (.c (.int .i64 0)), none⟩ ::
⟨some 4, .mov (.c (.int .i64 514)), none⟩ ::
[])))
.ret)
.skip))
(.seq
(.keep [2, 5, 6, 8, 11, 13]
(.reg (⟨some 71, .mov (.t 11), none⟩ ::
⟨some 72, .fieldAddr 1 (.t 5), none⟩ ::
⟨some 73, .load none (.t 72), none⟩ ::
⟨some 74, .call false (.f 58) [(.t 71), (.t 73)], none⟩ ::
⟨some 70, .mov (.t 74), none⟩ ::
⟨some 75, .extract (.t 70) 0, none⟩ ::
⟨some 76, .extract (.t 70) 1, none⟩ ::
⟨some 14, .mov (.t 75), none⟩ ::
⟨some 15, .mov (.t 76), none⟩ ::
[])))
(.seq
(.seq
(.keep [2, 5, 6, 8, 13, 14, 15]
(.reg (⟨some 77, .mov (.t 15), none⟩ ::
⟨some 78, .bin .neq (.t 77) (.c (.int .i64 0)), none⟩ ::
[])))
(.cond (.t 78)
(.seq
(.reg (⟨some 79, .build [.int .i64 0, .int .u64 0, .int .u64 0, .int .i64 0, .int .i64 0, .kb false, .int .u64 0, .nils, .nils, .nils] [], none⟩ ::
⟨none, .store 10 (.t 2) (.t 79), none⟩ ::
⟨some 3, .mov (.c (.int .i64 0)), none⟩ ::
⟨some 4, .mov (.c (.int .i64 518)), none⟩ ::
[]))
.ret)
.skip))
(.seq
(.seq
(.reg (⟨some 80, .mov (.t 14), none⟩ ::
⟨some 81, .len (.t 80), none⟩ ::
⟨some 82, .bin .gtr (.t 81) (.c (.int .i64 0)), none⟩ ::
[]))
(.cond (.t 82)
(.keep [2, 5, 6, 8, 13, 14]
(.reg (⟨some 83, .mov (.t 14), none⟩ ::
⟨some 84, .indexSl 1 (.t 83) (.c (.int .i64 0)), none⟩ ::
⟨some 85, .load none (.t 84), none⟩ ::
⟨some 86, .fieldAddr 1 (.t 8), none⟩ ::
⟨none, .store 1 (.t 86) (.t 85), none⟩ ::
[])))
.skip))
(.seq
(.seq
(.keep [2, 5, 6, 8, 13, 14]
(.reg (⟨some 87, .mov (.t 14), none⟩ ::
⟨some 88, .len (.t 87), none⟩ ::
⟨some 89, .bin .gtr (.t 88) (.c (.int .i64 1)), none⟩ ::
[])))
(.cond (.t 89)
(.reg (⟨some 90, .mov (.t 14), none⟩ ::
⟨some 91, .indexSl 1 (.t 90) (.c (.int .i64 1)), none⟩ ::
⟨some 92, .load none (.t 91), none⟩ ::
⟨some 93, .fieldAddr 2 (.t 8), none⟩ ::
⟨none, .store 1 (.t 93) (.t 92), none⟩ ::
[]))
.skip))
(.seq
(.seq
(.keep [2, 5, 6, 8, 13]
(.reg (⟨some 94, .fieldAddr 0 (.t 8), none⟩ ::
⟨some 95, .load none (.t 94), none⟩ ::
⟨some 96, .fieldAddr 1 (.t 8), none⟩ ::
⟨some 97, .load none (.t 96), none⟩ ::
⟨some 98, .call false (.f 59) [(.t 95), (.t 97)], none⟩ ::
⟨some 16, .mov (.t 98), none⟩ ::
[])))
(.seq
(.reg (⟨some 99, .mov (.t 16), none⟩ ::
⟨some 100, .bin .neq (.t 99) (.c (.int .i64 0)), none⟩ ::
[]))
(.cond (.t 100)
(.seq
(.keep [2, 16]
(.reg (⟨some 101, .build [.int .i64 0, .int .u64 0, .int .u64 0, .int .i64 0, .int .i64 0, .kb false, .int .u64 0, .nils, .nils, .nils] [], none⟩ ::
⟨some 102, .mov (.t 16), none⟩ ::
⟨none, .store 10 (.t 2) (.t 101), none⟩ ::
⟨some 3, .mov (.c (.int .i64 0)), none⟩ ::
⟨some 4, .mov (.t 102), none⟩ ::
[])))
.ret)
.skip)))
(.seq
(.keep [2, 5, 6, 8, 13]
(.regD ((⟨some 103, .fieldAddr 9 (.t 8), none⟩, []) ::
(⟨some 104, .load none (.t 103), none⟩, []) ::
(⟨some 105, .fieldAddr 1 (.t 5), none⟩, [0, 0]) ::
(⟨some 106, .load none (.t 105), none⟩, [1, 0]) ::
(⟨some 107, .mov (.t 13), none⟩, [0, 0, 0, 0]) ::
(⟨some 108, .slice 1 (.t 106) (some (.t 107)) none none, none⟩, [3, 0]) ::
(⟨some 109, .append (.int .u8) 1 (.t 104) (.t 108), none⟩, []) ::
(⟨some 110, .fieldAddr 9 (.t 8), none⟩, []) ::
(⟨none, .store 1 (.t 110) (.t 109), none⟩, []) ::
[])))
(.seq
(.keep [2, 6, 8]
(.reg (⟨some 111, .load (some 10) (.t 8), none⟩ ::
⟨some 112, .mov (.t 6), none⟩ ::
⟨none, .store 10 (.t 2) (.t 111), none⟩ ::
⟨some 3, .mov (.t 112), none⟩ ::
⟨some 4, .mov (.c (.int .i64 0)), none⟩ ::
[])))
.ret))))))))))))))))
def rd_r12_Decode : List RD := [.cell 2 (some 10) true [none, none, none, none, none, none, none, (some (.int .u8)), (some (.int .u8)), (some (.int .u8))], .tmp 3 true none, .tmp 4 true none]
theorem ok_r12_Decode : fnOk Tryz.prog Tryz.f16 ir_r12_Decode rd_r12_Decode = true := by kernel_rfl
def S_r12_Decode : List AV → List Obj → Option (Prop × AV)
  | [.imm (.int .u8) b], [] => some ((b.length ≤ 100000, .tup [.agg [.int .i64 (acI b (tT b)), .int .u64 (acA b 0), .int .u64 (acA b 1), .int .i64 (acS b (decC (bd b))), .int .i64 (acS b (decF (bd b))), .bool (acH b), .int .u64 (acS b (decX (bd b))), .imm (.int .u8) (acV b (decV (bd b))), .imm (.int .u8) (acV b (decM (bd b))), .imm (.int .u8) (acD b)], .int .i64 (acI b (tN b)), .int .i64 (acE b)]))
  | _, _ => none
theorem snd_r12_Decode : SoundS Tryz.prog 16 (RoF S_r12_Decode).sum := by
  refine ro_fn Tryz.func16 ok_r12_Decode (env_cons (s := RoF S_r04_One) snd_r04_One (env_cons (s := RoF S_r12_set) snd_r12_set (env_cons (s := RoF S_r12_row) snd_r12_row (env_cons (s := RoF S_r01_Size) snd_r01_Size (env_cons (s := RoF S_r01_Get) snd_r01_Get (env_cons (s := RoF S_r12_asked) snd_r12_asked (env_nil _))))))) fun args objs p v e => ?_
  unfold S_r12_Decode at e
  split at e
  · rename_i b
    cases e
    refine ⟨rfl, fun hw ho hp => ?_⟩
    change List Int at b
    have hb : ∀ x ∈ (b : List Int), (0 : Int) ≤ x ∧ x ≤ 255 := fun x hx => (hw (.imm (.int .u8) b) (by simp)).1 x hx
    clear hw ho
    have hbl := bd_le hb
    have hbb := bd_by hb
    have hs : (False = False) ∧ (4 ≤ (8 : Int) ∧ (8 : Int) ≤ 60000 ∧ 1 ≤ (8 : Int) ∧ (8 : Int) ≤ 64 ∧ (514 : Int) ≠ 0 ∧ (514 : Int) ≠ 0) := ⟨rfl, by decide, by decide, by decide, by decide, by decide, by decide⟩
    by_cases hT : tlE b 8 8 514 = 0
    · have hI : ∀ x, tlI b 8 8 514 x = x := fun x => if_pos hT
      have hR : tlR b 8 8 514 = bd b := if_pos hT
      have hge := bd_ge hT
      by_cases h25 : tT b = 25
      · have hE : acE b = setE (bd b) := by unfold acE; rw [if_neg (not_not_intro hT), if_pos h25]
        by_cases h0 : setE (bd b) = 0
        · have hd0 : decE (bd b) = 0 := Classical.byContradiction fun h => by
            unfold setE at h0; rw [if_neg h] at h0
            split at h0
            · cases h0
            · split at h0 <;> cases h0
          have hr0 : rE (bd b) = 0 := (dec_law hbb).symm.trans hd0
          obtain ⟨hdI, hdR⟩ := rI_0 hr0
          obtain ⟨n1, n2, n3, n4, n5, n6⟩ := ac_set (hE.trans h0) h25
          rw [n1, n2, n2, n3, n3, n3, n4, n5, n5, n6, n1, hE, h0]
          repeat' (intro t ht; first | (cases t <;> first | (cases ht; done) | ((try simp only [Bool.not_eq_eq_eq_not, Bool.not_true, Bool.not_false, Bool.and_eq_true, Bool.and_eq_false_iff, decide_eq_true_eq, decide_eq_false_iff_not] at ht); (try simp only [Int.toNat_natCast, dflt_int] at ht); (try (exfalso; first | contradiction | omega)))) | (refine ht ?_ ?_ <;> clear ht) | (refine ht.1 ?_ ?_ <;> clear ht) | (refine ht ?_; clear ht))
          all_goals (try simp only [hT, hI, hR, h0, h25, hdI, hdR, if_pos hr0, not_true_eq_false] at *)
          all_goals first
            | exact True.intro
            | omega
            | exact ⟨by first | rfl | exact True.intro, ⟨by decide, by decide, by decide, by decide, by decide, by decide⟩, by omega⟩
            | exact ⟨rfl, by first | rfl | exact True.intro⟩
            | exact ⟨True.intro, True.intro⟩
            | (exfalso; simp_all; done)
            | trace_state
        · obtain ⟨n1, n2, n3, n4, n5, n6⟩ := ac_bad (b := b) (by rw [hE]; exact h0)
          rw [n1, n2, n2, n3, n3, n3, n4, n5, n5, n6, n1, hE]
          repeat' (intro t ht; first | (cases t <;> first | (cases ht; done) | ((try simp only [Bool.not_eq_eq_eq_not, Bool.not_true, Bool.not_false, Bool.and_eq_true, Bool.and_eq_false_iff, decide_eq_true_eq, decide_eq_false_iff_not] at ht); (try simp only [Int.toNat_natCast, dflt_int] at ht); (try (exfalso; first | contradiction | omega)))) | (refine ht ?_ ?_ <;> clear ht) | (refine ht.1 ?_ ?_ <;> clear ht) | (refine ht ?_; clear ht))
          all_goals (try simp only [hT, hI, hR, h25, not_true_eq_false] at *)
          all_goals first
            | exact True.intro
            | omega
            | exact ⟨by first | rfl | exact True.intro, ⟨by decide, by decide, by decide, by decide, by decide, by decide⟩, by omega⟩
            | exact ⟨rfl, by first | rfl | exact True.intro⟩
            | exact ⟨True.intro, True.intro⟩
            | (exfalso; simp_all; done)
            | trace_state
      · cases hK : rowK (tT b) with
        | false =>
          have hE : acE b = 513 := by unfold acE; rw [if_neg (not_not_intro hT), if_neg h25, hK]; rfl
          obtain ⟨n1, n2, n3, n4, n5, n6⟩ := ac_bad (b := b) (by rw [hE]; decide)
          rw [n1, n2, n2, n3, n3, n3, n4, n5, n5, n6, n1, hE]
          repeat' (intro t ht; first | (cases t <;> first | (cases ht; done) | ((try simp only [Bool.not_eq_eq_eq_not, Bool.not_true, Bool.not_false, Bool.and_eq_true, Bool.and_eq_false_iff, decide_eq_true_eq, decide_eq_false_iff_not] at ht); (try simp only [Int.toNat_natCast, dflt_int] at ht); (try (exfalso; first | contradiction | omega)))) | (refine ht ?_ ?_ <;> clear ht) | (refine ht.1 ?_ ?_ <;> clear ht) | (refine ht ?_; clear ht))
          all_goals (try simp only [hT, hI, hR, not_true_eq_false] at *)
          all_goals first
            | exact True.intro
            | omega
            | exact ⟨by first | rfl | exact True.intro, ⟨by decide, by decide, by decide, by decide, by decide, by decide⟩, by omega⟩
            | exact ⟨rfl, by first | rfl | exact True.intro⟩
            | exact ⟨True.intro, True.intro⟩
            | (exfalso; simp_all; done)
            | trace_state
        | true =>
          have hE : acE b = plE (tT b) (bd b) := by unfold acE; rw [if_neg (not_not_intro hT), if_neg h25, if_pos hK]
          have hz := siz_le (tT b)
          have hcn := cnt_le (tT b)
          have h65 : tT b = 65535 → sizeW (rowT (tT b)) = 4 := fun h => by rw [h]; decide
          by_cases hm : ¬ tT b = 65535 ∧ ¬ ((bd b).length : Int) = sizeW (rowT (tT b))
          · have hE2 : acE b = 514 := hE.trans (if_pos hm)
            obtain ⟨n1, n2, n3, n4, n5, n6⟩ := ac_bad (b := b) (by rw [hE2]; decide)
            rw [n1, n2, n2, n3, n3, n3, n4, n5, n5, n6, n1, hE2]
            repeat' (intro t ht; first | (cases t <;> first | (cases ht; done) | ((try simp only [Bool.not_eq_eq_eq_not, Bool.not_true, Bool.not_false, Bool.and_eq_true, Bool.and_eq_false_iff, decide_eq_true_eq, decide_eq_false_iff_not] at ht); (try simp only [Int.toNat_natCast, dflt_int] at ht); (try (exfalso; first | contradiction | omega)))) | (refine ht ?_ ?_ <;> clear ht) | (refine ht.1 ?_ ?_ <;> clear ht) | (refine ht ?_; clear ht))
            all_goals (try simp only [hT, hI, hR, not_true_eq_false] at *)
            all_goals first
              | exact True.intro
              | omega
              | exact ⟨by first | rfl | exact True.intro, ⟨by decide, by decide, by decide, by decide, by decide, by decide⟩, by omega⟩
              | exact ⟨rfl, by first | rfl | exact True.intro⟩
              | exact ⟨True.intro, True.intro⟩
              | (exfalso; simp_all; done)
              | trace_state
          · have hsz : sizeW (rowT (tT b)) ≤ (bd b).length := by
              by_cases h6 : tT b = 65535
              · have := h65 h6; omega
              · have : ((bd b).length : Int) = sizeW (rowT (tT b)) := Classical.byContradiction fun h => hm ⟨h6, h⟩
                omega
            have hk1 : ¬ getK (rowT (tT b)) (bd b) = 1 := fun h => by have := getK_one h; omega
            by_cases hk0 : getK (rowT (tT b)) (bd b) = 0
            · have hE2 : acE b = askF (tT b) ((getL (rowT (tT b)) (bd b)).getD 0 0) := hE.trans ((if_neg hm).trans (by rw [hk0]; rfl))
              have hl := getL_cnt hbb hk0
              by_cases hf : askF (tT b) ((getL (rowT (tT b)) (bd b)).getD 0 0) = 0
              · obtain ⟨n1, n2, n3, n4, n5, n6⟩ := ac_row (hE2.trans hf) h25
                rw [n1, n2, n2, n3, n3, n3, n4, n5, n5, n6, n1, hE2, hf]
                rcases hL : getL (rowT (tT b)) (bd b) with _ | ⟨u, _ | ⟨w, _ | ⟨w2, r2⟩⟩⟩
                · have hlen : (getL (rowT (tT b)) (bd b)).length = 0 := by rw [hL]; rfl
                  rw [hL] at hl hf
                  repeat' (intro t ht; first | (cases t <;> first | (cases ht; done) | ((try simp only [Bool.not_eq_eq_eq_not, Bool.not_true, Bool.not_false, Bool.and_eq_true, Bool.and_eq_false_iff, decide_eq_true_eq, decide_eq_false_iff_not] at ht); (try simp only [Int.toNat_natCast, dflt_int] at ht); (try (exfalso; first | contradiction | omega)))) | (refine ht ?_ ?_ <;> clear ht) | (refine ht.1 ?_ ?_ <;> clear ht) | (refine ht ?_; clear ht))
                  all_goals (try simp only [hT, hI, hR, hL, hk0, List.getD_nil, List.length_nil, not_true_eq_false] at *)
                  all_goals first
                    | exact True.intro
                    | omega
                    | exact ⟨by first | rfl | exact True.intro, ⟨by decide, by decide, by decide, by decide, by decide, by decide⟩, by omega⟩
                    | exact ⟨by omega, by omega⟩
                    | (simp only [List.length_drop]; constructor <;> omega)
                    | exact ⟨rfl, by first | rfl | exact True.intro⟩
                    | exact ⟨True.intro, True.intro⟩
                    | (exfalso; simp only [List.length_cons, List.length_nil] at *; omega)
                    | (exfalso; simp_all; done)
                    | trace_state
                · have hlen : (getL (rowT (tT b)) (bd b)).length = 1 := by rw [hL]; rfl
                  rw [hL] at hl hf
                  repeat' (intro t ht; first | (cases t <;> first | (cases ht; done) | ((try simp only [Bool.not_eq_eq_eq_not, Bool.not_true, Bool.not_false, Bool.and_eq_true, Bool.and_eq_false_iff, decide_eq_true_eq, decide_eq_false_iff_not] at ht); (try simp only [Int.toNat_natCast, dflt_int] at ht); (try (exfalso; first | contradiction | omega)))) | (refine ht ?_ ?_ <;> clear ht) | (refine ht.1 ?_ ?_ <;> clear ht) | (refine ht ?_; clear ht))
                  all_goals (try simp only [hT, hI, hR, hL, hk0, not_true_eq_false] at *)
                  all_goals first
                    | exact True.intro
                    | omega
                    | exact ⟨by first | rfl | exact True.intro, ⟨by decide, by decide, by decide, by decide, by decide, by decide⟩, by omega⟩
                    | exact ⟨by omega, by omega⟩
                    | (simp only [List.length_drop]; constructor <;> omega)
                    | exact ⟨rfl, by first | rfl | exact True.intro⟩
                    | exact ⟨True.intro, True.intro⟩
                    | (exfalso; simp only [List.length_cons, List.length_nil] at *; omega)
                    | (exfalso; simp_all; done)
                    | trace_state
                · have hlen : (getL (rowT (tT b)) (bd b)).length = 2 := by rw [hL]; rfl
                  rw [hL] at hl hf
                  repeat' (intro t ht; first | (cases t <;> first | (cases ht; done) | ((try simp only [Bool.not_eq_eq_eq_not, Bool.not_true, Bool.not_false, Bool.and_eq_true, Bool.and_eq_false_iff, decide_eq_true_eq, decide_eq_false_iff_not] at ht); (try simp only [Int.toNat_natCast, dflt_int] at ht); (try (exfalso; first | contradiction | omega)))) | (refine ht ?_ ?_ <;> clear ht) | (refine ht.1 ?_ ?_ <;> clear ht) | (refine ht ?_; clear ht))
                  all_goals (try simp only [hT, hI, hR, hL, hk0, not_true_eq_false] at *)
                  all_goals first
                    | exact True.intro
                    | omega
                    | exact ⟨by first | rfl | exact True.intro, ⟨by decide, by decide, by decide, by decide, by decide, by decide⟩, by omega⟩
                    | exact ⟨by omega, by omega⟩
                    | (simp only [List.length_drop]; constructor <;> omega)
                    | exact ⟨rfl, by first | rfl | exact True.intro⟩
                    | exact ⟨True.intro, True.intro⟩
                    | (exfalso; simp only [List.length_cons, List.length_nil] at *; omega)
                    | (exfalso; simp_all; done)
                    | trace_state
                · rw [hL] at hl; simp only [List.length_cons] at hl; omega
              · obtain ⟨n1, n2, n3, n4, n5, n6⟩ := ac_bad (b := b) (by rw [hE2]; exact hf)
                rw [n1, n2, n2, n3, n3, n3, n4, n5, n5, n6, n1, hE2]
                rcases hL : getL (rowT (tT b)) (bd b) with _ | ⟨u, _ | ⟨w, _ | ⟨w2, r2⟩⟩⟩
                · have hlen : (getL (rowT (tT b)) (bd b)).length = 0 := by rw [hL]; rfl
                  rw [hL] at hl hf
                  repeat' (intro t ht; first | (cases t <;> first | (cases ht; done) | ((try simp only [Bool.not_eq_eq_eq_not, Bool.not_true, Bool.not_false, Bool.and_eq_true, Bool.and_eq_false_iff, decide_eq_true_eq, decide_eq_false_iff_not] at ht); (try simp only [Int.toNat_natCast, dflt_int] at ht); (try (exfalso; first | contradiction | omega)))) | (refine ht ?_ ?_ <;> clear ht) | (refine ht.1 ?_ ?_ <;> clear ht) | (refine ht ?_; clear ht))
                  all_goals (try simp only [hT, hI, hR, hL, hk0, List.getD_nil, List.length_nil, not_true_eq_false] at *)
                  all_goals first
                    | exact True.intro
                    | omega
                    | exact ⟨by first | rfl | exact True.intro, ⟨by decide, by decide, by decide, by decide, by decide, by decide⟩, by omega⟩
                    | exact ⟨by omega, by omega⟩
                    | exact ⟨rfl, by first | rfl | exact True.intro⟩
                    | exact ⟨True.intro, True.intro⟩
                    | (exfalso; simp only [List.length_cons, List.length_nil] at *; omega)
                    | (exfalso; simp_all; done)
                    | trace_state
                · have hlen : (getL (rowT (tT b)) (bd b)).length = 1 := by rw [hL]; rfl
                  rw [hL] at hl hf
                  repeat' (intro t ht; first | (cases t <;> first | (cases ht; done) | ((try simp only [Bool.not_eq_eq_eq_not, Bool.not_true, Bool.not_false, Bool.and_eq_true, Bool.and_eq_false_iff, decide_eq_true_eq, decide_eq_false_iff_not] at ht); (try simp only [Int.toNat_natCast, dflt_int] at ht); (try (exfalso; first | contradiction | omega)))) | (refine ht ?_ ?_ <;> clear ht) | (refine ht.1 ?_ ?_ <;> clear ht) | (refine ht ?_; clear ht))
                  all_goals (try simp only [hT, hI, hR, hL, hk0, not_true_eq_false] at *)
                  all_goals first
                    | exact True.intro
                    | omega
                    | exact ⟨by first | rfl | exact True.intro, ⟨by decide, by decide, by decide, by decide, by decide, by decide⟩, by omega⟩
                    | exact ⟨by omega, by omega⟩
                    | exact ⟨rfl, by first | rfl | exact True.intro⟩
                    | exact ⟨True.intro, True.intro⟩
                    | (exfalso; simp only [List.length_cons, List.length_nil] at *; omega)
                    | (exfalso; simp_all; done)
                    | trace_state
                · have hlen : (getL (rowT (tT b)) (bd b)).length = 2 := by rw [hL]; rfl
                  rw [hL] at hl hf
                  repeat' (intro t ht; first | (cases t <;> first | (cases ht; done) | ((try simp only [Bool.not_eq_eq_eq_not, Bool.not_true, Bool.not_false, Bool.and_eq_true, Bool.and_eq_false_iff, decide_eq_true_eq, decide_eq_false_iff_not] at ht); (try simp only [Int.toNat_natCast, dflt_int] at ht); (try (exfalso; first | contradiction | omega)))) | (refine ht ?_ ?_ <;> clear ht) | (refine ht.1 ?_ ?_ <;> clear ht) | (refine ht ?_; clear ht))
                  all_goals (try simp only [hT, hI, hR, hL, hk0, not_true_eq_false] at *)
                  all_goals first
                    | exact True.intro
                    | omega
                    | exact ⟨by first | rfl | exact True.intro, ⟨by decide, by decide, by decide, by decide, by decide, by decide⟩, by omega⟩
                    | exact ⟨by omega, by omega⟩
                    | exact ⟨rfl, by first | rfl | exact True.intro⟩
                    | exact ⟨True.intro, True.intro⟩
                    | (exfalso; simp only [List.length_cons, List.length_nil] at *; omega)
                    | (exfalso; simp_all; done)
                    | trace_state
                · rw [hL] at hl; simp only [List.length_cons] at hl; omega
            · have hk2 : getK (rowT (tT b)) (bd b) = 2 := by
                rcases getK_of (rowT (tT b)) (bd b) with h | h | h
                · exact absurd h hk0
                · exact absurd h hk1
                · exact h
              have hE2 : acE b = 518 := hE.trans ((if_neg hm).trans (by rw [hk2]; rfl))
              obtain ⟨n1, n2, n3, n4, n5, n6⟩ := ac_bad (b := b) (by rw [hE2]; decide)
              rw [n1, n2, n2, n3, n3, n3, n4, n5, n5, n6, n1, hE2]
              repeat' (intro t ht; first | (cases t <;> first | (cases ht; done) | ((try simp only [Bool.not_eq_eq_eq_not, Bool.not_true, Bool.not_false, Bool.and_eq_true, Bool.and_eq_false_iff, decide_eq_true_eq, decide_eq_false_iff_not] at ht); (try simp only [Int.toNat_natCast, dflt_int] at ht); (try (exfalso; first | contradiction | omega)))) | (refine ht ?_ ?_ <;> clear ht) | (refine ht.1 ?_ ?_ <;> clear ht) | (refine ht ?_; clear ht))
              all_goals (try simp only [hT, hI, hR, hk2, not_true_eq_false] at *)
              all_goals first
                | exact True.intro
                | omega
                | exact ⟨by first | rfl | exact True.intro, ⟨by decide, by decide, by decide, by decide, by decide, by decide⟩, by omega⟩
                | exact ⟨rfl, by first | rfl | exact True.intro⟩
                | exact ⟨True.intro, True.intro⟩
                | (exfalso; simp_all; done)
                | trace_state
    · have hE : acE b = tlE b 8 8 514 := by unfold acE; rw [if_pos hT]
      obtain ⟨n1, n2, n3, n4, n5, n6⟩ := ac_bad (b := b) (by rw [hE]; exact hT)
      rw [n1, n2, n2, n3, n3, n3, n4, n5, n5, n6, n1, hE]
      repeat' (intro t ht; first | (cases t <;> first | (cases ht; done) | ((try simp only [Bool.not_eq_eq_eq_not, Bool.not_true, Bool.not_false, Bool.and_eq_true, Bool.and_eq_false_iff, decide_eq_true_eq, decide_eq_false_iff_not] at ht); (try simp only [Int.toNat_natCast, dflt_int] at ht); (try (exfalso; first | contradiction | omega)))) | (refine ht ?_ ?_ <;> clear ht) | (refine ht.1 ?_ ?_ <;> clear ht) | (refine ht ?_; clear ht))
      all_goals first
        | exact True.intro
        | exact ⟨by first | rfl | exact True.intro, ⟨by decide, by decide, by decide, by decide, by decide, by decide⟩, by omega⟩
        | exact ⟨rfl, by first | rfl | exact True.intro⟩
        | trace_state
  · cases e
end Go.Eng
