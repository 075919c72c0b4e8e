/- Contracts of functions of the given program, told by plain Lean functions. No condition. -/
import Derived.Test.YtcicjbcgnkbffaaDoorProg
import Derived.Test.YtcicjbcgnkbffaaDoorESum
import Derived.KernelRfl
import Derived.Test.YtcicjbcgnkbffaaDoorOG
namespace Go.Eng
open Go.Proofs
set_option linter.unusedVariables false
set_option linter.unusedSimpArgs false
set_option maxRecDepth 100000
set_option maxHeartbeats 1000000
def ir_l08_OxmBack : IR :=
 (.seq
  (.reg ((⟨(some 2), .boxv (.t 0), none⟩ : IOper) ::
    (⟨(some 4), .mov (.c (.kb false)), none⟩ : IOper) ::
    []))
  (.seq
   (.seq
    (.reg ((⟨(some 18), .load (some 6) (.t 2), none⟩ : IOper) ::
      (⟨(some 19), .call false (.f 6) [(.t 18)], none⟩ : IOper) ::
      (⟨(some 20), .un .not (.t 19), none⟩ : IOper) ::
      (⟨(some 21), .mov (.t 20), none⟩ : IOper) ::
      (⟨(some 22), .mov (.t 1), (some (21, false))⟩ : IOper) ::
      (⟨(some 23), .len (.t 22), (some (21, false))⟩ : IOper) ::
      (⟨(some 24), .bin .gtr (.t 23) (.c (.int .i64 600)), (some (21, false))⟩ : IOper) ::
      (⟨(some 25), .pick (.t 21) (.c (.kb true)) (.t 24), none⟩ : IOper) ::
      []))
    (.cond (.t 25)
     (.seq
      (.reg ((⟨(some 26), .call false (.f 7) [], none⟩ : IOper) ::
        (⟨(some 4), .mov (.t 26), none⟩ : IOper) ::
        []))
      .ret)
     .skip))
   (.seq
    (.seq
     (.reg ((⟨(some 28), .load (some 6) (.t 2), none⟩ : IOper) ::
       (⟨(some 29), .call false (.f 8) [(.t 28)], none⟩ : IOper) ::
       (⟨(some 27), .mov (.t 29), none⟩ : IOper) ::
       (⟨(some 30), .extract (.t 27) 0, none⟩ : IOper) ::
       (⟨(some 31), .extract (.t 27) 1, none⟩ : IOper) ::
       (⟨(some 5), .mov (.t 30), none⟩ : IOper) ::
       (⟨(some 6), .mov (.t 31), none⟩ : IOper) ::
       []))
     (.seq
      (.reg ((⟨(some 32), .mov (.t 6), none⟩ : IOper) ::
        (⟨(some 33), .bin .eql (.t 32) (.c (.int .i64 0)), none⟩ : IOper) ::
        []))
      (.cond (.t 33)
       (.seq
        (.reg ((⟨(some 35), .slice0 (.int .u8), none⟩ : IOper) ::
          (⟨(some 36), .mov (.t 5), none⟩ : IOper) ::
          (⟨(some 37), .append (.int .u8) 1 (.t 35) (.t 36), none⟩ : IOper) ::
          (⟨(some 38), .mov (.t 1), none⟩ : IOper) ::
          (⟨(some 39), .append (.int .u8) 1 (.t 37) (.t 38), none⟩ : IOper) ::
          (⟨(some 40), .call false (.f 14) [(.t 39)], none⟩ : IOper) ::
          (⟨(some 34), .mov (.t 40), none⟩ : IOper) ::
          (⟨(some 41), .extract (.t 34) 0, none⟩ : IOper) ::
          (⟨(some 42), .extract (.t 34) 1, none⟩ : IOper) ::
          (⟨(some 43), .extract (.t 34) 2, none⟩ : IOper) ::
          (⟨(some 7), .box [.int .i64 0, .int .i64 0, .kb false, .int .u64 0, .imm (.int .u8) [], .imm (.int .u8) []], none⟩ : IOper) ::
          (⟨none, .store 6 (.t 7) (.t 41), none⟩ : IOper) ::
          (⟨(some 8), .mov (.t 42), none⟩ : IOper) ::
          (⟨(some 9), .mov (.t 43), none⟩ : IOper) ::
          []))
        (.seq
         (.seq
          (.reg ((⟨(some 44), .mov (.t 9), none⟩ : IOper) ::
            (⟨(some 45), .bin .neq (.t 44) (.c (.int .i64 0)), none⟩ : IOper) ::
            (⟨(some 46), .mov (.t 45), none⟩ : IOper) ::
            (⟨(some 47), .mov (.t 8), (some (46, false))⟩ : IOper) ::
            (⟨(some 48), .mov (.t 5), (some (46, false))⟩ : IOper) ::
            (⟨(some 49), .len (.t 48), (some (46, false))⟩ : IOper) ::
            (⟨(some 50), .bin .neq (.t 47) (.t 49), (some (46, false))⟩ : IOper) ::
            (⟨(some 51), .pick (.t 46) (.c (.kb true)) (.t 50), none⟩ : IOper) ::
            (⟨(some 52), .mov (.t 51), none⟩ : IOper) ::
            (⟨(some 53), .mov (.t 8), (some (52, false))⟩ : IOper) ::
            (⟨(some 54), .load (some 6) (.t 2), (some (52, false))⟩ : IOper) ::
            (⟨(some 55), .call false (.f 12) [(.t 54)], (some (52, false))⟩ : IOper) ::
            (⟨(some 56), .bin .neq (.t 53) (.t 55), (some (52, false))⟩ : IOper) ::
            (⟨(some 57), .pick (.t 52) (.c (.kb true)) (.t 56), none⟩ : IOper) ::
            (⟨(some 58), .mov (.t 57), none⟩ : IOper) ::
            (⟨(some 59), .load (some 6) (.t 2), (some (58, false))⟩ : IOper) ::
            (⟨(some 60), .load (some 6) (.t 7), (some (58, false))⟩ : IOper) ::
            (⟨(some 61), .call false (.f 16) [(.t 59), (.t 60)], (some (58, false))⟩ : IOper) ::
            (⟨(some 62), .un .not (.t 61), (some (58, false))⟩ : IOper) ::
            (⟨(some 63), .pick (.t 58) (.c (.kb true)) (.t 62), none⟩ : IOper) ::
            []))
          (.cond (.t 63)
           (.seq
            (.reg ((⟨(some 4), .mov (.c (.kb false)), none⟩ : IOper) ::
              []))
            .ret)
           .skip))
         (.seq
          (.reg ((⟨(some 65), .mov (.t 5), none⟩ : IOper) ::
            (⟨(some 66), .mov (.t 5), none⟩ : IOper) ::
            (⟨(some 67), .len (.t 66), none⟩ : IOper) ::
            (⟨(some 68), .bin .sub (.t 67) (.c (.int .i64 1)), none⟩ : IOper) ::
            (⟨(some 69), .slice 1 (.t 65) none (some (.t 68)) none, none⟩ : IOper) ::
            (⟨(some 70), .call false (.f 14) [(.t 69)], none⟩ : IOper) ::
            (⟨(some 64), .mov (.t 70), none⟩ : IOper) ::
            (⟨(some 71), .extract (.t 64) 0, none⟩ : IOper) ::
            (⟨(some 72), .extract (.t 64) 1, none⟩ : IOper) ::
            (⟨(some 73), .extract (.t 64) 2, none⟩ : IOper) ::
            (⟨(some 10), .box [.int .i64 0, .int .i64 0, .kb false, .int .u64 0, .imm (.int .u8) [], .imm (.int .u8) []], none⟩ : IOper) ::
            (⟨none, .store 6 (.t 10) (.t 71), none⟩ : IOper) ::
            (⟨(some 11), .mov (.t 72), none⟩ : IOper) ::
            (⟨(some 12), .mov (.t 73), none⟩ : IOper) ::
            []))
          (.seq
           (.reg ((⟨(some 74), .mov (.t 5), none⟩ : IOper) ::
             (⟨(some 75), .len (.t 74), none⟩ : IOper) ::
             (⟨(some 76), .bin .gtr (.t 75) (.c (.int .i64 4)), none⟩ : IOper) ::
             (⟨(some 77), .mov (.t 76), none⟩ : IOper) ::
             (⟨(some 78), .mov (.t 12), (some (77, true))⟩ : IOper) ::
             (⟨(some 79), .bin .neq (.t 78) (.c (.int .i64 1026)), (some (77, true))⟩ : IOper) ::
             (⟨(some 80), .pick (.t 77) (.t 79) (.c (.kb false)), none⟩ : IOper) ::
             []))
           (.cond (.t 80)
            (.seq
             (.reg ((⟨(some 4), .mov (.c (.kb false)), none⟩ : IOper) ::
               []))
             .ret)
            .skip)))))
       .skip)))
    (.seq
     (.reg ((⟨(some 82), .mov (.t 1), none⟩ : IOper) ::
       (⟨(some 83), .call false (.f 14) [(.t 82)], none⟩ : IOper) ::
       (⟨(some 81), .mov (.t 83), none⟩ : IOper) ::
       (⟨(some 84), .extract (.t 81) 0, none⟩ : IOper) ::
       (⟨(some 85), .extract (.t 81) 1, none⟩ : IOper) ::
       (⟨(some 86), .extract (.t 81) 2, none⟩ : IOper) ::
       (⟨(some 13), .box [.int .i64 0, .int .i64 0, .kb false, .int .u64 0, .imm (.int .u8) [], .imm (.int .u8) []], none⟩ : IOper) ::
       (⟨none, .store 6 (.t 13) (.t 84), none⟩ : IOper) ::
       (⟨(some 14), .mov (.t 85), none⟩ : IOper) ::
       (⟨(some 15), .mov (.t 86), none⟩ : IOper) ::
       []))
     (.seq
      (.seq
       (.reg ((⟨(some 87), .mov (.t 15), none⟩ : IOper) ::
         (⟨(some 88), .bin .neq (.t 87) (.c (.int .i64 0)), none⟩ : IOper) ::
         []))
       (.cond (.t 88)
        (.seq
         (.reg ((⟨(some 89), .mov (.t 14), none⟩ : IOper) ::
           (⟨(some 90), .bin .eql (.t 89) (.c (.int .i64 0)), none⟩ : IOper) ::
           (⟨(some 91), .mov (.t 90), none⟩ : IOper) ::
           (⟨(some 92), .fieldAddr 4 (.t 13), (some (91, true))⟩ : IOper) ::
           (⟨(some 93), .load none (.t 92), (some (91, true))⟩ : IOper) ::
           (⟨(some 94), .len (.t 93), (some (91, true))⟩ : IOper) ::
           (⟨(some 95), .bin .eql (.t 94) (.c (.int .i64 0)), (some (91, true))⟩ : IOper) ::
           (⟨(some 96), .pick (.t 91) (.t 95) (.c (.kb false)), none⟩ : IOper) ::
           (⟨(some 97), .mov (.t 96), none⟩ : IOper) ::
           (⟨(some 98), .call false (.f 7) [], (some (97, true))⟩ : IOper) ::
           (⟨(some 99), .pick (.t 97) (.t 98) (.c (.kb false)), none⟩ : IOper) ::
           (⟨(some 4), .mov (.t 99), none⟩ : IOper) ::
           []))
         .ret)
        .skip))
      (.seq
       (.reg ((⟨(some 101), .load (some 6) (.t 13), none⟩ : IOper) ::
         (⟨(some 102), .call false (.f 8) [(.t 101)], none⟩ : IOper) ::
         (⟨(some 100), .mov (.t 102), none⟩ : IOper) ::
         (⟨(some 103), .extract (.t 100) 0, none⟩ : IOper) ::
         (⟨(some 104), .extract (.t 100) 1, none⟩ : IOper) ::
         (⟨(some 16), .mov (.t 103), none⟩ : IOper) ::
         (⟨(some 17), .mov (.t 104), none⟩ : IOper) ::
         []))
       (.seq
        (.reg ((⟨(some 105), .mov (.t 17), none⟩ : IOper) ::
          (⟨(some 106), .bin .eql (.t 105) (.c (.int .i64 0)), none⟩ : IOper) ::
          (⟨(some 107), .mov (.t 106), none⟩ : IOper) ::
          (⟨(some 108), .mov (.t 14), (some (107, true))⟩ : IOper) ::
          (⟨(some 109), .mov (.t 1), (some (107, true))⟩ : IOper) ::
          (⟨(some 110), .len (.t 109), (some (107, true))⟩ : IOper) ::
          (⟨(some 111), .bin .leq (.t 108) (.t 110), (some (107, true))⟩ : IOper) ::
          (⟨(some 112), .pick (.t 107) (.t 111) (.c (.kb false)), none⟩ : IOper) ::
          (⟨(some 113), .mov (.t 112), none⟩ : IOper) ::
          (⟨(some 114), .mov (.t 16), (some (113, true))⟩ : IOper) ::
          (⟨(some 115), .mov (.t 1), (some (113, true))⟩ : IOper) ::
          (⟨(some 116), .mov (.t 14), (some (113, true))⟩ : IOper) ::
          (⟨(some 117), .slice 1 (.t 115) none (some (.t 116)) none, (some (113, true))⟩ : IOper) ::
          (⟨(some 118), .call false (.f 13) [(.t 114), (.t 117)], (some (113, true))⟩ : IOper) ::
          (⟨(some 119), .pick (.t 113) (.t 118) (.c (.kb false)), none⟩ : IOper) ::
          (⟨(some 120), .mov (.t 119), none⟩ : IOper) ::
          (⟨(some 121), .load (some 6) (.t 13), (some (120, true))⟩ : IOper) ::
          (⟨(some 122), .call false (.f 10) [(.t 121)], (some (120, true))⟩ : IOper) ::
          (⟨(some 123), .pick (.t 120) (.t 122) (.c (.kb false)), none⟩ : IOper) ::
          (⟨(some 124), .mov (.t 123), none⟩ : IOper) ::
          (⟨(some 125), .call false (.f 7) [], (some (124, true))⟩ : IOper) ::
          (⟨(some 126), .pick (.t 124) (.t 125) (.c (.kb false)), none⟩ : IOper) ::
          (⟨(some 4), .mov (.t 126), none⟩ : IOper) ::
          []))
        .ret)))))))
def rd_l08_OxmBack : List RD := [.tmp 4 true none]
theorem ok_l08_OxmBack : fnOk Tryd.prog Tryd.f5 ir_l08_OxmBack rd_l08_OxmBack = true := by kernel_rfl
def S_l08_OxmBack : List AV → List Obj → Option (Prop × AV)
  | [.agg [.int .i64 c, .int .i64 f, .bool h, .int .u64 x, .imm (.int .u8) v, .imm (.int .u8) m], .imm (.int .u8) b], [] => some ((True, .bool true))
  | _, _ => none
theorem snd_l08_OxmBack : SoundS Tryd.prog 5 (RoF S_l08_OxmBack).sum := by
  refine ro_fn Tryd.func5 ok_l08_OxmBack (env_cons (s := RoF S_r08_Few) snd_r08_Few (env_cons (s := RoF S_l08_sure) snd_l08_sure (env_cons (s := RoF S_oxm_Encode) snd_oxm_Encode (env_cons (s := RoF S_oxm_Decode) snd_oxm_Decode (env_cons (s := RoF S_oxm_Size) snd_oxm_Size (env_cons (s := RoF S_r08_Same) snd_r08_Same (env_cons (s := RoF S_r01_Bytes) snd_r01_Bytes (env_cons (s := RoF S_oxm_Right) snd_oxm_Right (env_nil _))))))))) fun args objs p v e => ?_
  unfold S_l08_OxmBack at e
  split at e
  · rename_i c f h x v m b
    cases e
    refine ⟨rfl, fun hw ho hp => ?_⟩
    change List Int at v
    change List Int at m
    change List Int at b
    have hb : ∀ x ∈ b, 0 ≤ x ∧ x ≤ 255 := fun y hy => (hw (.imm (.int .u8) b) (by simp)).1 y hy
    have hx0 : 0 ≤ x := ((hw _ (List.mem_cons_self ..)) (.int .u64 x) (by simp)).1
    have hbl : b.length ≤ maxLen := (hw (.imm (.int .u8) b) (by simp)).2
    unfold maxLen at hbl
    have key : ∀ h0 : decE b = 0, rightO (decC b) (decF b) (decH b) (decX b) (decV b) (decM b) = true ∧ encO (decC b) (decF b) (decH b) (decX b) (decV b) (decM b) = b.take (decN b).toNat ∧ 0 ≤ decN b ∧ decN b ≤ b.length ∧ (decV b).length ≤ 1000000 ∧ (decM b).length ≤ 1000000 := fun h0 => by
      obtain ⟨k1, k2, k3, k4⟩ := enc_dec hb h0
      have kn := right_nums k1
      exact ⟨k1, (enc_law k1).trans k2, k3, k4, by omega, by omega⟩
    cases hr : rightO c f h x v m with
    | false =>
      by_cases h0 : decE b = 0
      · obtain ⟨D1, D2, D3, D4, D5, D6⟩ := key h0
        repeat' (intro t ht; first | (cases t <;> first | (cases ht; done) | ((try simp only [Bool.not_eq_eq_eq_not, Bool.not_true, Bool.not_false, Bool.and_eq_true, Bool.and_eq_false_iff, decide_eq_true_eq, decide_eq_false_iff_not] at ht); (try simp only [Int.toNat_natCast, dflt_int] at ht))) | (refine ht ?_ ?_ <;> clear ht) | (refine ht.1 ?_ ?_ <;> clear ht) | (refine ht ?_; clear ht))
        all_goals (try simp only [hr, if_true, if_false, Bool.false_eq_true, reduceCtorEq, cast_rfl, List.nil_append, decI, decR, not_true_eq_false, not_false_eq_true, h0, D1, D2] at *)
        all_goals first
          | exact True.intro
          | contradiction
          | exact ⟨by decide, by decide⟩
          | exact (by decide)
          | omega
          | (constructor <;> omega)
          | (exfalso; omega)
          | (simp only [min_i64, max_i64]; omega)
          | exact ⟨rfl, by first | rfl | exact True.intro⟩
          | (simp only [List.length_append, List.length_nil, List.length_take] at *; omega)
          | (simp only [List.length_append, List.length_nil, List.length_take] at *; constructor <;> omega)
          | trace_state
      · skip
        repeat' (intro t ht; first | (cases t <;> first | (cases ht; done) | ((try simp only [Bool.not_eq_eq_eq_not, Bool.not_true, Bool.not_false, Bool.and_eq_true, Bool.and_eq_false_iff, decide_eq_true_eq, decide_eq_false_iff_not] at ht); (try simp only [Int.toNat_natCast, dflt_int] at ht))) | (refine ht ?_ ?_ <;> clear ht) | (refine ht.1 ?_ ?_ <;> clear ht) | (refine ht ?_; clear ht))
        all_goals (try simp only [hr, if_true, if_false, Bool.false_eq_true, reduceCtorEq, cast_rfl, List.nil_append, decI, decR, not_true_eq_false, not_false_eq_true, h0] at *)
        all_goals first
          | exact True.intro
          | contradiction
          | exact ⟨by decide, by decide⟩
          | exact (by decide)
          | omega
          | (constructor <;> omega)
          | (exfalso; omega)
          | (simp only [min_i64, max_i64]; omega)
          | exact ⟨rfl, by first | rfl | exact True.intro⟩
          | (simp only [List.length_append, List.length_nil, List.length_take] at *; omega)
          | (simp only [List.length_append, List.length_nil, List.length_take] at *; constructor <;> omega)
          | trace_state
    | true =>
      have he := enc_law hr
      obtain ⟨E1, E2, E3, E4, E5, E6, E7, E8⟩ := dec_enc (b := b) hr hx0
      have hself := same_self c f h x v m
      have hsz : sizeO c f h x v m = ((refB c f h x v m).length : Int) := by rw [size_law, if_pos hr]
      have hrn := right_nums hr
      have hlen : 4 ≤ (refB c f h x v m).length ∧ (refB c f h x v m).length ≤ 300 := by
        have hl2 := bytesN_len (n := c) (w := 2) (by decide)
        have : ((refB c f h x v m).length : Int) = 4 + restO c v m := by
          rw [hrn.2.2.2.2.2.2.2]; unfold refB; simp only [List.length_append, List.length_cons, List.length_nil]; omega
        omega
      have hct : ((refB c f h x v m).take (((refB c f h x v m).length : Int) - 1).toNat) = (refB c f h x v m).take ((refB c f h x v m).length - 1) := by
        rw [show (((refB c f h x v m).length : Int) - 1).toNat = (refB c f h x v m).length - 1 by omega]
      have hcut := fun h4 => dec_cut hr hx0 h4
      by_cases h0 : decE b = 0
      · obtain ⟨D1, D2, D3, D4, D5, D6⟩ := key h0
        repeat' (intro t ht; first | (cases t <;> first | (cases ht; done) | ((try simp only [Bool.not_eq_eq_eq_not, Bool.not_true, Bool.not_false, Bool.and_eq_true, Bool.and_eq_false_iff, decide_eq_true_eq, decide_eq_false_iff_not] at ht); (try simp only [Int.toNat_natCast, dflt_int] at ht))) | (refine ht ?_ ?_ <;> clear ht) | (refine ht.1 ?_ ?_ <;> clear ht) | (refine ht ?_; clear ht))
        all_goals (try simp only [hr, if_true, if_false, Bool.false_eq_true, reduceCtorEq, cast_rfl, List.nil_append, decI, decR, not_true_eq_false, not_false_eq_true, he, hsz, E1, E2, E3, E4, E5, E6, E7, E8, hself, hct, h0, D1, D2] at *)
        all_goals first
          | exact True.intro
          | contradiction
          | exact ⟨by decide, by decide⟩
          | exact (by decide)
          | omega
          | (constructor <;> omega)
          | (exfalso; omega)
          | (simp only [min_i64, max_i64]; omega)
          | exact ⟨rfl, by first | rfl | exact True.intro⟩
          | (simp only [List.length_append, List.length_nil, List.length_take] at *; omega)
          | (simp only [List.length_append, List.length_nil, List.length_take] at *; constructor <;> omega)
          | trace_state
      · skip
        repeat' (intro t ht; first | (cases t <;> first | (cases ht; done) | ((try simp only [Bool.not_eq_eq_eq_not, Bool.not_true, Bool.not_false, Bool.and_eq_true, Bool.and_eq_false_iff, decide_eq_true_eq, decide_eq_false_iff_not] at ht); (try simp only [Int.toNat_natCast, dflt_int] at ht))) | (refine ht ?_ ?_ <;> clear ht) | (refine ht.1 ?_ ?_ <;> clear ht) | (refine ht ?_; clear ht))
        all_goals (try simp only [hr, if_true, if_false, Bool.false_eq_true, reduceCtorEq, cast_rfl, List.nil_append, decI, decR, not_true_eq_false, not_false_eq_true, he, hsz, E1, E2, E3, E4, E5, E6, E7, E8, hself, hct, h0] at *)
        all_goals first
          | exact True.intro
          | contradiction
          | exact ⟨by decide, by decide⟩
          | exact (by decide)
          | omega
          | (constructor <;> omega)
          | (exfalso; omega)
          | (simp only [min_i64, max_i64]; omega)
          | exact ⟨rfl, by first | rfl | exact True.intro⟩
          | (simp only [List.length_append, List.length_nil, List.length_take] at *; omega)
          | (simp only [List.length_append, List.length_nil, List.length_take] at *; constructor <;> omega)
          | trace_state
  · cases e
end Go.Eng
