/- Contracts of functions of the given program, told by plain Lean functions. No condition. -/
import Derived.Test.YtoejpijobbcooaaGreatDoorProg
import Derived.Test.YtoejpijobbcooaaGreatDoorEArg
import Derived.KernelRfl
import Derived.Test.YtoejpijobbcooaaGreatDoorZ1
import Derived.Test.YtoejpijobbcooaaGreatDoorF6
namespace Go.Eng
open Go.Proofs
set_option linter.unusedVariables false
set_option linter.unusedSimpArgs false
set_option maxRecDepth 100000
set_option maxHeartbeats 1000000
theorem bodyA_ref {q a b c f : Int} {h : Bool} {x : Int} {v m d : List Int} (hr : rightA (rightO c f h x v m) q a b c f h x v m d = true) : bodyA q a b (encO c f h x v m) d = bodyA q a b (refB c f h x v m) d := by
  by_cases h25 : q = 25
  · obtain ⟨_, _, _, _, _, _, hR⟩ := rightA_25 h25 hr
    rw [enc_law hR]
  · unfold bodyA; rw [if_neg h25, if_neg h25]
theorem rightA_type {R : Bool} {q a b c f : Int} {h : Bool} {x : Int} {v m d : List Int} (hr : rightA R q a b c f h x v m d = true) : 0 ≤ q ∧ q ≤ 65535 := by
  by_cases h25 : q = 25
  · omega
  · exact type_le (.inl (rightA_row h25 hr).1)
theorem sameO_has {c f : Int} {h : Bool} {x : Int} {v m : List Int} (hs : sameO c f h x v m 0 0 false 0 [] [] = true) : h = false := by
  cases h with
  | false => rfl
  | true => unfold sameO at hs; simp at hs
def ir_r12_body : IR :=
(.seq
(.keep [0]
(.reg (⟨some 1, .boxv (.t 0), none⟩ ::
⟨some 2, .mov (.c (.imm (.int .u8) [])), none⟩ ::
⟨some 3, .mov (.c (.kb false)), none⟩ ::
[])))
(.seq
(.reg (⟨some 13, .build [.int .i64 0, .int .i64 0, .kb false, .int .u64 0, .imm (.int .u8) [], .imm (.int .u8) []] [], none⟩ ::
⟨some 4, .box [.int .i64 0, .int .i64 0, .kb false, .int .u64 0, .imm (.int .u8) [], .imm (.int .u8) []], none⟩ ::
⟨none, .store 6 (.t 4) (.t 13), none⟩ ::
[]))
(.seq
(.seq
(.reg (⟨some 14, .fieldAddr 0 (.t 1), none⟩ ::
⟨some 15, .load none (.t 14), none⟩ ::
⟨some 16, .bin .eql (.t 15) (.c (.int .i64 25)), none⟩ ::
[]))
(.cond (.t 16)
(.seq
(.keep [1]
(.reg (⟨some 17, .fieldAddr 3 (.t 1), none⟩ ::
⟨some 18, .load (some 6) (.t 17), none⟩ ::
⟨some 5, .box [.int .i64 0, .int .i64 0, .kb false, .int .u64 0, .imm (.int .u8) [], .imm (.int .u8) []], none⟩ ::
⟨none, .store 6 (.t 5) (.t 18), none⟩ ::
[])))
(.seq
(.keep [1, 5]
(.reg (⟨some 19, .fieldAddr 1 (.t 1), none⟩ ::
⟨some 20, .load none (.t 19), none⟩ ::
⟨some 21, .bin .eql (.t 20) (.c (.int .u64 0)), none⟩ ::
⟨some 22, .mov (.t 21), none⟩ ::
⟨some 23, .fieldAddr 2 (.t 1), some (22, true)⟩ ::
⟨some 24, .load none (.t 23), some (22, true)⟩ ::
⟨some 25, .bin .eql (.t 24) (.c (.int .u64 0)), some (22, true)⟩ ::
⟨some 26, .pick (.t 22) (.t 25) (.c (.kb false)), none⟩ ::
⟨some 27, .mov (.t 26), none⟩ ::
⟨some 28, .fieldAddr 9 (.t 1), some (27, true)⟩ ::
⟨some 29, .load none (.t 28), some (27, true)⟩ ::
⟨some 30, .len (.t 29), some (27, true)⟩ ::
⟨some 31, .bin .eql (.t 30) (.c (.int .i64 0)), some (27, true)⟩ ::
⟨some 32, .pick (.t 27) (.t 31) (.c (.kb false)), none⟩ ::
⟨some 33, .mov (.t 32), none⟩ ::
⟨some 34, .fieldAddr 0 (.t 5), some (33, true)⟩ ::
⟨some 35, .load none (.t 34), some (33, true)⟩ ::
⟨some 36, .bin .eql (.t 35) (.c (.int .i64 32768)), some (33, true)⟩ ::
⟨some 37, .pick (.t 33) (.t 36) (.c (.kb false)), none⟩ ::
⟨some 38, .mov (.t 37), none⟩ ::
⟨some 39, .fieldAddr 2 (.t 5), some (38, true)⟩ ::
⟨some 40, .load none (.t 39), some (38, true)⟩ ::
⟨some 41, .un .not (.t 40), some (38, true)⟩ ::
⟨some 42, .pick (.t 38) (.t 41) (.c (.kb false)), none⟩ ::
⟨some 43, .mov (.t 42), none⟩ ::
⟨some 44, .fieldAddr 1 (.t 5), some (43, true)⟩ ::
⟨some 45, .load none (.t 44), some (43, true)⟩ ::
⟨some 46, .call false (.f 91) [(.t 45)], some (43, true)⟩ ::
⟨some 47, .pick (.t 43) (.t 46) (.c (.kb false)), none⟩ ::
⟨some 48, .mov (.t 47), none⟩ ::
⟨some 49, .load (some 6) (.t 5), some (48, true)⟩ ::
⟨some 50, .call false (.f 92) [(.t 49)], some (48, true)⟩ ::
⟨some 51, .pick (.t 48) (.t 50) (.c (.kb false)), none⟩ ::
⟨some 6, .mov (.t 51), none⟩ ::
[])))
(.seq
(.seq
(.keep [5, 6]
(.reg (⟨some 52, .mov (.t 6), none⟩ ::
⟨some 53, .un .not (.t 52), none⟩ ::
[])))
(.cond (.t 53)
(.seq
(.reg (⟨some 2, .mov (.c (.imm (.int .u8) [])), none⟩ ::
⟨some 3, .mov (.c (.kb false)), none⟩ ::
[]))
.ret)
.skip))
(.seq
(.reg (⟨some 54, .load (some 6) (.t 5), none⟩ ::
⟨some 55, .call false (.f 93) [(.t 54)], none⟩ ::
⟨some 7, .mov (.t 55), none⟩ ::
[]))
(.seq
(.block 0
(.loop
(.seq
(.seq
(.keep [7]
(.reg (⟨some 56, .mov (.t 7), none⟩ ::
⟨some 57, .len (.t 56), none⟩ ::
⟨some 58, .bin .rem (.t 57) (.c (.int .i64 8)), none⟩ ::
⟨some 59, .bin .neq (.t 58) (.c (.int .i64 4)), none⟩ ::
[])))
(.cond (.t 59)
.skip
(.exit 0)))
(.block 1
(.reg (⟨some 60, .mov (.t 7), none⟩ ::
⟨some 61, .sliceAll (.int .u8) 1 [(0, 1, (.c (.int .u8 0)))], none⟩ ::
⟨some 62, .append (.int .u8) 1 (.t 60) (.t 61), none⟩ ::
⟨some 7, .mov (.t 62), none⟩ ::
[]))))))
(.seq
(.keep [7]
(.reg (⟨some 63, .mov (.t 7), none⟩ ::
⟨some 2, .mov (.t 63), none⟩ ::
⟨some 3, .mov (.c (.kb true)), none⟩ ::
[])))
.ret))))))
.skip))
(.seq
(.keep [1, 4]
(.reg (⟨some 65, .fieldAddr 0 (.t 1), none⟩ ::
⟨some 66, .load none (.t 65), none⟩ ::
⟨some 67, .call false (.f 56) [(.t 66)], none⟩ ::
⟨some 64, .mov (.t 67), none⟩ ::
⟨some 68, .extract (.t 64) 0, none⟩ ::
⟨some 69, .extract (.t 64) 1, none⟩ ::
⟨some 8, .mov (.t 68), none⟩ ::
⟨some 9, .mov (.t 69), none⟩ ::
[])))
(.seq
(.seq
(.keep [1, 4, 8, 9]
(.reg (⟨some 70, .mov (.t 9), none⟩ ::
⟨some 71, .un .not (.t 70), none⟩ ::
⟨some 72, .mov (.t 71), none⟩ ::
⟨some 73, .fieldAddr 3 (.t 1), some (72, false)⟩ ::
⟨some 74, .load (some 6) (.t 73), some (72, false)⟩ ::
⟨some 75, .load (some 6) (.t 4), some (72, false)⟩ ::
⟨some 76, .call false (.f 60) [(.t 74), (.t 75)], some (72, false)⟩ ::
⟨some 77, .un .not (.t 76), some (72, false)⟩ ::
⟨some 78, .pick (.t 72) (.c (.kb true)) (.t 77), none⟩ ::
⟨some 79, .mov (.t 78), none⟩ ::
⟨some 80, .fieldAddr 3 (.t 1), some (79, false)⟩ ::
⟨some 81, .fieldAddr 2 (.t 80), some (79, false)⟩ ::
⟨some 82, .load none (.t 81), some (79, false)⟩ ::
⟨some 83, .pick (.t 79) (.c (.kb true)) (.t 82), none⟩ ::
⟨some 84, .mov (.t 83), none⟩ ::
⟨some 85, .fieldAddr 0 (.t 1), some (84, false)⟩ ::
⟨some 86, .load none (.t 85), some (84, false)⟩ ::
⟨some 87, .fieldAddr 1 (.t 1), some (84, false)⟩ ::
⟨some 88, .load none (.t 87), some (84, false)⟩ ::
⟨some 89, .call false (.f 59) [(.t 86), (.t 88)], some (84, false)⟩ ::
⟨some 90, .bin .neq (.t 89) (.c (.int .i64 0)), some (84, false)⟩ ::
⟨some 91, .pick (.t 84) (.c (.kb true)) (.t 90), none⟩ ::
[])))
(.cond (.t 91)
(.seq
(.keep []
(.reg (⟨some 2, .mov (.c (.imm (.int .u8) [])), none⟩ ::
⟨some 3, .mov (.c (.kb false)), none⟩ ::
[])))
.ret)
.skip))
(.seq
(.keep [1, 8]
(.reg (⟨some 92, .load (some 10) (.t 1), none⟩ ::
⟨some 93, .mov (.t 8), none⟩ ::
⟨some 94, .call false (.f 94) [(.t 92), (.t 93)], none⟩ ::
⟨some 10, .mov (.t 94), none⟩ ::
[])))
(.seq
(.keep [1, 8, 10]
(.reg (⟨some 96, .mov (.t 8), none⟩ ::
⟨some 97, .mov (.t 10), none⟩ ::
⟨some 98, .call false (.f 95) [(.t 96), (.t 97)], none⟩ ::
⟨some 95, .mov (.t 98), none⟩ ::
⟨some 99, .extract (.t 95) 0, none⟩ ::
⟨some 100, .extract (.t 95) 1, none⟩ ::
⟨some 11, .mov (.t 99), none⟩ ::
⟨some 12, .mov (.t 100), none⟩ ::
[])))
(.seq
(.seq
(.keep [1, 10, 11, 12]
(.reg (⟨some 101, .mov (.t 12), none⟩ ::
⟨some 102, .un .not (.t 101), none⟩ ::
⟨some 103, .mov (.t 102), none⟩ ::
⟨some 104, .mov (.t 10), some (103, false)⟩ ::
⟨some 105, .len (.t 104), some (103, false)⟩ ::
⟨some 106, .bin .lss (.t 105) (.c (.int .i64 2)), some (103, false)⟩ ::
⟨some 107, .mov (.t 106), some (103, false)⟩ ::
⟨some 108, .fieldAddr 2 (.t 1), some (107, true)⟩ ::
⟨some 109, .load none (.t 108), some (107, true)⟩ ::
⟨some 110, .bin .neq (.t 109) (.c (.int .u64 0)), some (107, true)⟩ ::
⟨some 111, .pick (.t 107) (.t 110) (.c (.kb false)), some (103, false)⟩ ::
⟨some 112, .pick (.t 103) (.c (.kb true)) (.t 111), none⟩ ::
⟨some 113, .mov (.t 112), none⟩ ::
⟨some 114, .mov (.t 10), some (113, false)⟩ ::
⟨some 115, .len (.t 114), some (113, false)⟩ ::
⟨some 116, .bin .lss (.t 115) (.c (.int .i64 1)), some (113, false)⟩ ::
⟨some 117, .mov (.t 116), some (113, false)⟩ ::
⟨some 118, .fieldAddr 1 (.t 1), some (117, true)⟩ ::
⟨some 119, .load none (.t 118), some (117, true)⟩ ::
⟨some 120, .bin .neq (.t 119) (.c (.int .u64 0)), some (117, true)⟩ ::
⟨some 121, .pick (.t 117) (.t 120) (.c (.kb false)), some (113, false)⟩ ::
⟨some 122, .pick (.t 113) (.c (.kb true)) (.t 121), none⟩ ::
⟨some 123, .mov (.t 122), none⟩ ::
⟨some 124, .fieldAddr 0 (.t 1), some (123, false)⟩ ::
⟨some 125, .load none (.t 124), some (123, false)⟩ ::
⟨some 126, .bin .neq (.t 125) (.c (.int .i64 65535)), some (123, false)⟩ ::
⟨some 127, .mov (.t 126), some (123, false)⟩ ::
⟨some 128, .fieldAddr 9 (.t 1), some (127, true)⟩ ::
⟨some 129, .load none (.t 128), some (127, true)⟩ ::
⟨some 130, .len (.t 129), some (127, true)⟩ ::
⟨some 131, .bin .gtr (.t 130) (.c (.int .i64 0)), some (127, true)⟩ ::
⟨some 132, .pick (.t 127) (.t 131) (.c (.kb false)), some (123, false)⟩ ::
⟨some 133, .pick (.t 123) (.c (.kb true)) (.t 132), none⟩ ::
⟨some 134, .mov (.t 133), none⟩ ::
⟨some 135, .fieldAddr 9 (.t 1), some (134, false)⟩ ::
⟨some 136, .load none (.t 135), some (134, false)⟩ ::
⟨some 137, .len (.t 136), some (134, false)⟩ ::
⟨some 138, .bin .rem (.t 137) (.c (.int .i64 8)), some (134, false)⟩ ::
⟨some 139, .bin .neq (.t 138) (.c (.int .i64 0)), some (134, false)⟩ ::
⟨some 140, .pick (.t 134) (.c (.kb true)) (.t 139), none⟩ ::
⟨some 141, .mov (.t 140), none⟩ ::
⟨some 142, .fieldAddr 9 (.t 1), some (141, false)⟩ ::
⟨some 143, .load none (.t 142), some (141, false)⟩ ::
⟨some 144, .len (.t 143), some (141, false)⟩ ::
⟨some 145, .bin .gtr (.t 144) (.c (.int .i64 65520)), some (141, false)⟩ ::
⟨some 146, .pick (.t 141) (.c (.kb true)) (.t 145), none⟩ ::
[])))
(.cond (.t 146)
(.seq
(.keep []
(.reg (⟨some 2, .mov (.c (.imm (.int .u8) [])), none⟩ ::
⟨some 3, .mov (.c (.kb false)), none⟩ ::
[])))
.ret)
.skip))
(.seq
(.keep [1, 11]
(.reg (⟨some 147, .mov (.t 11), none⟩ ::
⟨some 148, .fieldAddr 9 (.t 1), none⟩ ::
⟨some 149, .load none (.t 148), none⟩ ::
⟨some 150, .append (.int .u8) 1 (.t 147) (.t 149), none⟩ ::
⟨some 2, .mov (.t 150), none⟩ ::
⟨some 3, .mov (.c (.kb true)), none⟩ ::
[])))
.ret)))))))))
def rd_r12_body : List RD := [.tmp 2 true (some (.int .u8)), .tmp 3 true none]
theorem ok_r12_body : fnOk Tryz.prog Tryz.f43 ir_r12_body rd_r12_body = true := by kernel_rfl
def S_r12_body : List AV → List Obj → Option (Prop × AV)
  | [.agg [.int .i64 q, .int .u64 a, .int .u64 b, .int .i64 c, .int .i64 f, .bool h, .int .u64 x, .imm (.int .u8) v, .imm (.int .u8) m, .imm (.int .u8) d]], [] => some ((v.length ≤ 100000 ∧ m.length ≤ 100000 ∧ d.length ≤ 100000, .tup [.imm (.int .u8) (if rightA (refR c f h x v m) q a b c f h x v m d = true then bodyA q a b (refB c f h x v m) d else []), .bool (rightA (refR c f h x v m) q a b c f h x v m d)]))
  | _, _ => none
theorem snd_r12_body : SoundS Tryz.prog 43 (RoF S_r12_body).sum := by
  refine ro_fn Tryz.func43 ok_r12_body (env_cons (s := RoF S_r07_Settable) snd_r07_Settable (env_cons (s := RoF S_r08_Right) snd_r08_Right (env_cons (s := RwF S_r08_Bytes_k) snd_r08_Bytes_k (env_cons (s := RoF S_r12_row) snd_r12_row (env_cons (s := RoF S_r08_Same) snd_r08_Same (env_cons (s := RoF S_r12_asked) snd_r12_asked (env_cons (s := RoF S_r12_nums) snd_r12_nums (env_cons (s := RwF S_r01_Put_k) snd_r01_Put_k (env_nil _))))))))) fun args objs p v e => ?_
  unfold S_r12_body at e
  split at e
  · rename_i q a b c f h x v m d
    cases e
    refine ⟨rfl, fun hw ho hp => ?_⟩
    change List Int at v
    change List Int at m
    change List Int at d
    have hx0 : 0 ≤ x := ((hw _ (List.mem_cons_self ..)) (.int .u64 x) (by simp)).1
    have hv0 : ∀ z ∈ (v : List Int), (0 : Int) ≤ z ∧ z ≤ 255 := fun z hz => ((hw _ (List.mem_cons_self ..)) (.imm (.int .u8) v) (by simp)).1 z hz
    have hm0 : ∀ z ∈ (m : List Int), (0 : Int) ≤ z ∧ z ≤ 255 := fun z hz => ((hw _ (List.mem_cons_self ..)) (.imm (.int .u8) m) (by simp)).1 z hz
    clear hw ho
    have hcn := cnt_le q
    have hsz := siz_le q
    have hRO := right_law (c := c) (f := f) (h := h) hx0 hv0 hm0
    have hcl : ((([a, b].take (countW (rowT q)).toNat).length : Nat) : Int) = countW (rowT q) := by rw [List.length_take]; simp only [List.length_cons, List.length_nil]; omega
    have hpl : ([a, b].take (countW (rowT q)).toNat).length = (countW (rowT q)).toNat := by rw [List.length_take]; simp only [List.length_cons, List.length_nil]; omega
    by_cases h25 : q = 25
    · have hR : rightA (refR c f h x v m) q a b c f h x v m d = (decide (a = 0) && decide (b = 0) && decide (d.length = 0) && (decide (c = 32768) && !h && settF f && refR c f h x v m)) := if_pos h25
      cases hr : rightA (refR c f h x v m) q a b c f h x v m d with
      | false =>
        rw [hR] at hr
        repeat' (intro t ht; first | (cases t <;> first | (cases ht; done) | ((try simp only [Bool.not_eq_eq_eq_not, Bool.not_true, Bool.not_false, Bool.and_eq_true, Bool.and_eq_false_iff, decide_eq_true_eq, decide_eq_false_iff_not] at ht); (try simp only [Int.toNat_natCast, dflt_int] at ht); (try (exfalso; first | contradiction | omega)))) | (refine ht ?_ ?_ <;> clear ht) | (refine ht.1 ?_ ?_ <;> clear ht) | (refine ht ?_; clear ht))
        all_goals first
          | exact True.intro
          | exact hp
          | exact ⟨hp.1, hp.2.1⟩
          | omega
          | exact ⟨rfl, by first | rfl | exact True.intro⟩
          | (exfalso; simp_all; done)
          | trace_state
      | true =>
        obtain ⟨ha, hb, hd, hc, hh, hs, hRr⟩ := rightA_25 h25 hr
        have hBB : bodyA q a b (refB c f h x v m) d = refB c f h x v m ++ List.replicate ((8 - (4 + (refB c f h x v m).length) % 8) % 8) 0 := if_pos h25
        have hn := right_nums (hRO.trans hRr)
        have hsL := (sizeO_right (hRO.trans hRr)).2
        rw [enc_law (hRO.trans hRr)] at hsL
        repeat' (intro t ht; first | (cases t <;> first | (cases ht; done) | ((try simp only [Bool.not_eq_eq_eq_not, Bool.not_true, Bool.not_false, Bool.and_eq_true, Bool.and_eq_false_iff, decide_eq_true_eq, decide_eq_false_iff_not] at ht); (try simp only [Int.toNat_natCast, dflt_int] at ht); (try (exfalso; first | contradiction | omega)))) | (refine ht ?_ ?_ <;> clear ht) | (refine ht.1 ?_ ?_ <;> clear ht) | (refine ht ?_; clear ht))
        all_goals first
          | exact True.intro
          | exact ⟨hp.1, hp.2.1⟩
          | exact ⟨hn.1, hn.2.1, by omega, by omega, by omega, by omega⟩
          | omega
          | (exfalso; simp_all; done)
          | (intro r h1 h2; clear h1; refine h2 ⟨[7], Nat, (fun i => i ≤ (8 - (4 + (refB c f h x v m).length) % 8) % 8), fun _ => [.own 0], fun i => [.row false (.int .u8) (refB c f h x v m ++ List.replicate i 0)], fun i => 8 - i, ⟨0, Nat.zero_le _, rfl, congrArg (fun l => [Obj.row false (.int .u8) l]) (List.append_nil _).symm⟩, ?_⟩; clear h2)
          | trace_state
        rintro i hi
        (try dsimp only at hi)
        have hlen : (refB c f h x v m ++ List.replicate i (0 : Int)).length = (refB c f h x v m).length + i := by rw [List.length_append, List.length_replicate]
        repeat' (intro t ht; first | (cases t <;> first | (cases ht; done) | ((try simp only [Bool.not_eq_eq_eq_not, Bool.not_true, Bool.not_false, Bool.and_eq_true, Bool.and_eq_false_iff, decide_eq_true_eq, decide_eq_false_iff_not] at ht); (try simp only [Int.toNat_natCast, dflt_int] at ht))) | (refine ht ?_ ?_ <;> clear ht) | (refine ht.1 ?_ ?_ <;> clear ht) | (refine ht ?_; clear ht))
        all_goals (try simp only [hlen, tmod_nn (Int.natCast_nonneg _)] at *)
        all_goals first
          | exact True.intro
          | omega
          | ((try simp only [Int.toNat_natCast, dflt_int, decide_eq_true_eq, decide_eq_false_iff_not, Bool.not_eq_eq_eq_not, Bool.not_true, Bool.not_false, Bool.and_eq_true, Bool.and_eq_false_iff, min_i64, max_i64, min_u64, max_u64, min_u32, max_u32, min_u16, max_u16, min_u8, max_u8] at *); omega)
          | (refine ⟨i + 1, ?_, ?_, rfl, ?_⟩
             · (try dsimp only); omega
             · (try dsimp only); omega
             · simp only [cast_rfl, List.replicate_succ', List.append_assoc])
          | (simp only [List.length_cons, List.length_nil]; constructor <;> omega)
          | (refine ⟨?_, by first | rfl | exact True.intro⟩; rw [hBB, show i = (8 - (4 + (refB c f h x v m).length) % 8) % 8 by omega]; rfl)
          | trace_state
    · have hR : rightA (refR c f h x v m) q a b c f h x v m d = (rowK q && sameO c f h x v m 0 0 false 0 [] [] && decide (askF q a = 0) && putK (rowT q) ([a, b].take (countW (rowT q)).toNat) && (decide (2 ≤ countW (rowT q)) || decide (b = 0)) && (decide (1 ≤ countW (rowT q)) || decide (a = 0)) && (if q = 65535 then decide ((d.length : Int).tmod 8 = 0) && decide ((d.length : Int) ≤ 65520) else decide (d.length = 0))) := if_neg h25
      cases hr : rightA (refR c f h x v m) q a b c f h x v m d with
      | false =>
        rw [hR] at hr
        repeat' (intro t ht; first | (cases t <;> first | (cases ht; done) | ((try simp only [Bool.not_eq_eq_eq_not, Bool.not_true, Bool.not_false, Bool.and_eq_true, Bool.and_eq_false_iff, decide_eq_true_eq, decide_eq_false_iff_not] at ht); (try simp only [Int.toNat_natCast, dflt_int] at ht); (try (exfalso; first | contradiction | omega)))) | (refine ht ?_ ?_ <;> clear ht) | (refine ht.1 ?_ ?_ <;> clear ht) | (refine ht ?_; clear ht))
        all_goals first
          | exact True.intro
          | exact hp
          | exact ⟨hp.1, hp.2.1⟩
          | exact hcn
          | omega
          | exact ⟨rfl, by first | rfl | exact True.intro⟩
          | (exfalso
             simp only [hcl] at *
             refine absurd ?_ (Bool.eq_false_iff.1 hr)
             simp only [Bool.and_eq_true, Bool.or_eq_true, decide_eq_true_eq]
             refine ⟨⟨⟨⟨⟨⟨by assumption, by assumption⟩, by assumption⟩, by assumption⟩, by omega⟩, by omega⟩, ?_⟩
             first
               | (rw [if_pos (by assumption)]; simp only [Bool.and_eq_true, decide_eq_true_eq]; exact ⟨by assumption, by omega⟩)
               | (rw [if_neg (by assumption)]; simp only [decide_eq_true_eq]; omega))
          | trace_state
      | true =>
        obtain ⟨k1, k2, k3, k4, k5, k6, k7⟩ := rightA_row h25 hr
        unfold numsA at k4
        have hh := sameO_has k2
        have hB : bodyA q a b (refB c f h x v m) d = putB (rowT q) ([a, b].take (countW (rowT q)).toNat) ++ d := if_neg h25
        have hps := putB_size k4
        repeat' (intro t ht; first | (cases t <;> first | (cases ht; done) | ((try simp only [Bool.not_eq_eq_eq_not, Bool.not_true, Bool.not_false, Bool.and_eq_true, Bool.and_eq_false_iff, decide_eq_true_eq, decide_eq_false_iff_not] at ht); (try simp only [Int.toNat_natCast, dflt_int] at ht); (try (exfalso; first | contradiction | omega)))) | (refine ht ?_ ?_ <;> clear ht) | (refine ht.1 ?_ ?_ <;> clear ht) | (refine ht ?_; clear ht))
        all_goals first
          | exact True.intro
          | exact hp
          | exact ⟨hp.1, hp.2.1⟩
          | exact hcn
          | omega
          | (constructor <;> omega)
          | (simp only [cast_rfl]; constructor <;> omega)
          | (refine ⟨?_, by first | rfl | exact True.intro⟩; rw [hB]; rfl)
          | (exfalso; simp_all; done)
          | (exfalso; simp_all; omega)
          | trace_state
  · cases e
def ir_r12_Encode : IR :=
(.seq
(.keep [0]
(.reg (⟨some 1, .boxv (.t 0), none⟩ ::
⟨some 2, .mov (.c (.imm (.int .u8) [])), none⟩ ::
⟨some 3, .mov (.c (.int .i64 0)), none⟩ ::
[])))
(.seq
(.keep [1]
(.reg (⟨some 7, .load (some 10) (.t 1), none⟩ ::
⟨some 8, .call false (.f 43) [(.t 7)], none⟩ ::
⟨some 6, .mov (.t 8), none⟩ ::
⟨some 9, .extract (.t 6) 0, none⟩ ::
⟨some 10, .extract (.t 6) 1, none⟩ ::
⟨some 4, .mov (.t 9), none⟩ ::
⟨some 5, .mov (.t 10), none⟩ ::
[])))
(.seq
(.seq
(.keep [1, 4, 5]
(.reg (⟨some 11, .mov (.t 5), none⟩ ::
⟨some 12, .un .not (.t 11), none⟩ ::
[])))
(.cond (.t 12)
(.seq
(.reg (⟨some 2, .mov (.c (.imm (.int .u8) [])), none⟩ ::
⟨some 3, .mov (.c (.int .i64 10001)), none⟩ ::
[]))
.ret)
.skip))
(.seq
(.keep [1, 4]
(.reg (⟨some 13, .fieldAddr 0 (.t 1), none⟩ ::
⟨some 14, .load none (.t 13), none⟩ ::
⟨some 15, .conv .u64 (.t 14), none⟩ ::
⟨some 16, .call false (.f 44) [(.t 15), (.c (.int .i64 2))], none⟩ ::
⟨some 17, .mov (.t 4), none⟩ ::
⟨some 18, .len (.t 17), none⟩ ::
⟨some 19, .bin .add (.c (.int .i64 4)) (.t 18), none⟩ ::
⟨some 20, .conv .u64 (.t 19), none⟩ ::
⟨some 21, .call false (.f 44) [(.t 20), (.c (.int .i64 2))], none⟩ ::
⟨some 22, .append (.int .u8) 1 (.t 16) (.t 21), none⟩ ::
⟨some 23, .mov (.t 4), none⟩ ::
⟨some 24, .append (.int .u8) 1 (.t 22) (.t 23), none⟩ ::
⟨some 2, .mov (.t 24), none⟩ ::
⟨some 3, .mov (.c (.int .i64 0)), none⟩ ::
[])))
.ret))))
def rd_r12_Encode : List RD := [.tmp 2 true (some (.int .u8)), .tmp 3 true none]
theorem ok_r12_Encode : fnOk Tryz.prog Tryz.f11 ir_r12_Encode rd_r12_Encode = true := by kernel_rfl
def S_r12_Encode : List AV → List Obj → Option (Prop × AV)
  | [.agg [.int .i64 q, .int .u64 a, .int .u64 b, .int .i64 c, .int .i64 f, .bool h, .int .u64 x, .imm (.int .u8) v, .imm (.int .u8) m, .imm (.int .u8) d]], [] => some ((v.length ≤ 100000 ∧ m.length ≤ 100000 ∧ d.length ≤ 100000, .tup [.imm (.int .u8) (if rightA (refR c f h x v m) q a b c f h x v m d = true then encA q a b (refB c f h x v m) d else []), .int .i64 (if rightA (refR c f h x v m) q a b c f h x v m d = true then 0 else 10001)]))
  | _, _ => none
theorem snd_r12_Encode : SoundS Tryz.prog 11 (RoF S_r12_Encode).sum := by
  refine ro_fn Tryz.func11 ok_r12_Encode (env_cons (s := RoF S_r12_body) snd_r12_body (env_cons (s := RwF S_r01_Num) snd_r01_Num (env_nil _))) fun args objs p v e => ?_
  unfold S_r12_Encode at e
  split at e
  · rename_i q a b c f h x v m d
    cases e
    refine ⟨rfl, fun hw ho hp => ?_⟩
    change List Int at v
    change List Int at m
    change List Int at d
    have hx0 : 0 ≤ x := ((hw _ (List.mem_cons_self ..)) (.int .u64 x) (by simp)).1
    have hv0 : ∀ z ∈ (v : List Int), (0 : Int) ≤ z ∧ z ≤ 255 := fun z hz => ((hw _ (List.mem_cons_self ..)) (.imm (.int .u8) v) (by simp)).1 z hz
    have hm0 : ∀ z ∈ (m : List Int), (0 : Int) ≤ z ∧ z ≤ 255 := fun z hz => ((hw _ (List.mem_cons_self ..)) (.imm (.int .u8) m) (by simp)).1 z hz
    clear hw ho
    have hRA := rightA_ref (q := q) (a := a) (b := b) (c := c) (f := f) (h := h) (d := d) hx0 hv0 hm0
    cases hr : rightA (refR c f h x v m) q a b c f h x v m d with
    | false =>
      repeat' (intro t ht; first | (cases t <;> first | (cases ht; done) | ((try simp only [Bool.not_eq_eq_eq_not, Bool.not_true, Bool.not_false, Bool.and_eq_true, Bool.and_eq_false_iff, decide_eq_true_eq, decide_eq_false_iff_not] at ht); (try simp only [Int.toNat_natCast, dflt_int] at ht); (try (exfalso; first | contradiction | omega)))) | (refine ht ?_ ?_ <;> clear ht) | (refine ht.1 ?_ ?_ <;> clear ht) | (refine ht ?_; clear ht))
      all_goals first
        | exact True.intro
        | exact hp
        | exact ⟨rfl, by first | rfl | exact True.intro⟩
        | (exfalso; simp_all; done)
        | trace_state
    | true =>
      have hro := hRA.trans hr
      obtain ⟨_, s1, _, _⟩ := sizeA_len hro
      rw [bodyA_ref hro] at s1
      have hq := rightA_type hr
      have l2 := bytesN_len (n := q) (w := 2) (by decide)
      have l3 := bytesN_len (n := (4 + (bodyA q a b (refB c f h x v m) d).length)) (w := 2) (by decide)
      repeat' (intro t ht; first | (cases t <;> first | (cases ht; done) | ((try simp only [Bool.not_eq_eq_eq_not, Bool.not_true, Bool.not_false, Bool.and_eq_true, Bool.and_eq_false_iff, decide_eq_true_eq, decide_eq_false_iff_not] at ht); (try simp only [Int.toNat_natCast, dflt_int] at ht); (try (exfalso; first | contradiction | omega)))) | (refine ht ?_ ?_ <;> clear ht) | (refine ht.1 ?_ ?_ <;> clear ht) | (refine ht ?_; clear ht))
      all_goals (try simp only [hr, if_true, cast_rfl] at *)
      all_goals first
        | exact True.intro
        | exact hp
        | omega
        | ((try simp only [Int.toNat_natCast, dflt_int, decide_eq_true_eq, decide_eq_false_iff_not, Bool.not_eq_eq_eq_not, Bool.not_true, Bool.not_false, Bool.and_eq_true, Bool.and_eq_false_iff, min_i64, max_i64, min_u64, max_u64, min_u32, max_u32, min_u16, max_u16, min_u8, max_u8] at *); omega)
        | (constructor <;> omega)
        | (simp only [List.length_append]; constructor <;> omega)
        | exact ⟨rfl, by first | rfl | exact True.intro⟩
        | (exfalso; simp_all; done)
        | trace_state
  · cases e
end Go.Eng
