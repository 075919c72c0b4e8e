/- Contracts of functions of the given program, told by plain Lean functions. No condition. -/
import Derived.Test.YtoejpijobbcooaaDoorProg
import Derived.Test.YtoejpijobbcooaaDoorESum
import Derived.KernelRfl
import Derived.Test.YtoejpijobbcooaaDoorAB
namespace Go.Eng
open Go.Proofs
set_option linter.unusedVariables false
set_option linter.unusedSimpArgs false
set_option maxRecDepth 100000
set_option maxHeartbeats 1000000
def ir_l12_ActionCopies : IR :=
 (.seq
  (.keep [0, 1, 2]
  (.reg ((⟨(some 3), .boxv (.t 0), none⟩ : IOper) ::
    (⟨(some 4), .boxv (.t 1), none⟩ : IOper) ::
    (⟨(some 6), .mov (.c (.kb false)), none⟩ : IOper) ::
    [])))
  (.seq
   (.seq
    (.keep [2, 3, 4]
    (.reg ((⟨(some 12), .load (some 10) (.t 3), none⟩ : IOper) ::
      (⟨(some 13), .call false (.f 7) [(.t 12)], none⟩ : IOper) ::
      (⟨(some 14), .un .not (.t 13), none⟩ : IOper) ::
      (⟨(some 15), .mov (.t 14), none⟩ : IOper) ::
      (⟨(some 16), .load (some 10) (.t 4), (some (15, false))⟩ : IOper) ::
      (⟨(some 17), .call false (.f 7) [(.t 16)], (some (15, false))⟩ : IOper) ::
      (⟨(some 18), .un .not (.t 17), (some (15, false))⟩ : IOper) ::
      (⟨(some 19), .pick (.t 15) (.c (.kb true)) (.t 18), none⟩ : IOper) ::
      [])))
    (.cond (.t 19)
     (.seq
      (.keep []
      (.reg ((⟨(some 20), .call false (.f 8) [], none⟩ : IOper) ::
        (⟨(some 6), .mov (.t 20), none⟩ : IOper) ::
        [])))
      .ret)
     .skip))
   (.seq
    (.keep [2, 3, 4]
    (.reg ((⟨(some 21), .load (some 10) (.t 3), none⟩ : IOper) ::
      (⟨(some 22), .call false (.f 15) [(.t 21)], none⟩ : IOper) ::
      (⟨(some 7), .box [.int .i64 0, .int .u64 0, .int .u64 0, .int .i64 0, .int .i64 0, .kb false, .int .u64 0, .imm (.int .u8) [], .imm (.int .u8) [], .imm (.int .u8) []], none⟩ : IOper) ::
      (⟨none, .store 10 (.t 7) (.t 22), none⟩ : IOper) ::
      [])))
    (.seq
     (.seq
      (.keep [2, 3, 4, 7]
      (.regD (((⟨(some 23), .load (some 10) (.t 3), none⟩, []) : IOper × List Nat) ::
        ((⟨(some 24), .load (some 10) (.t 7), none⟩, [0]) : IOper × List Nat) ::
        ((⟨(some 25), .call false (.f 12) [(.t 23), (.t 24)], none⟩, []) : IOper × List Nat) ::
        ((⟨(some 26), .un .not (.t 25), none⟩, []) : IOper × List Nat) ::
        ((⟨(some 27), .mov (.t 26), none⟩, []) : IOper × List Nat) ::
        ((⟨(some 28), .load (some 10) (.t 3), (some (27, false))⟩, []) : IOper × List Nat) ::
        ((⟨(some 29), .load (some 10) (.t 4), (some (27, false))⟩, [0]) : IOper × List Nat) ::
        ((⟨(some 30), .call false (.f 16) [(.t 28), (.t 29)], (some (27, false))⟩, []) : IOper × List Nat) ::
        ((⟨(some 31), .load (some 10) (.t 3), (some (27, false))⟩, [0, 0, 0]) : IOper × List Nat) ::
        ((⟨(some 32), .load (some 10) (.t 4), (some (27, false))⟩, [0, 0, 0, 0]) : IOper × List Nat) ::
        ((⟨(some 33), .call false (.f 12) [(.t 31), (.t 32)], (some (27, false))⟩, []) : IOper × List Nat) ::
        ((⟨(some 34), .eqb true (.t 30) (.t 33), (some (27, false))⟩, []) : IOper × List Nat) ::
        ((⟨(some 35), .pick (.t 27) (.c (.kb true)) (.t 34), none⟩, []) : IOper × List Nat) ::
        ((⟨(some 36), .mov (.t 35), none⟩, []) : IOper × List Nat) ::
        ((⟨(some 37), .load (some 10) (.t 3), (some (36, false))⟩, []) : IOper × List Nat) ::
        ((⟨(some 38), .load (some 10) (.t 7), (some (36, false))⟩, [0]) : IOper × List Nat) ::
        ((⟨(some 39), .call false (.f 16) [(.t 37), (.t 38)], (some (36, false))⟩, []) : IOper × List Nat) ::
        ((⟨(some 40), .un .not (.t 39), (some (36, false))⟩, []) : IOper × List Nat) ::
        ((⟨(some 41), .pick (.t 36) (.c (.kb true)) (.t 40), none⟩, []) : IOper × List Nat) ::
        [])))
      (.cond (.t 41)
       (.seq
        (.keep []
        (.reg ((⟨(some 6), .mov (.c (.kb false)), none⟩ : IOper) ::
          [])))
        .ret)
       .skip))
     (.seq
      (.keep [2, 3, 7]
      (.regD (((⟨(some 42), .fieldAddr 9 (.t 3), none⟩, []) : IOper × List Nat) ::
        ((⟨(some 43), .load none (.t 42), none⟩, []) : IOper × List Nat) ::
        ((⟨(some 44), .b2s (.t 43), none⟩, []) : IOper × List Nat) ::
        ((⟨(some 45), .fieldAddr 3 (.t 3), none⟩, [0, 0, 0]) : IOper × List Nat) ::
        ((⟨(some 46), .fieldAddr 4 (.t 45), none⟩, [1, 0, 0]) : IOper × List Nat) ::
        ((⟨(some 47), .load none (.t 46), none⟩, [2, 0, 0]) : IOper × List Nat) ::
        ((⟨(some 48), .b2s (.t 47), none⟩, [3, 0, 0]) : IOper × List Nat) ::
        ((⟨(some 8), .mov (.t 44), none⟩, [0, 0, 0, 0]) : IOper × List Nat) ::
        ((⟨(some 9), .mov (.t 48), none⟩, []) : IOper × List Nat) ::
        [])))
      (.seq
       (.seq
        (.keep [2, 3, 7, 8, 9]
        (.reg ((⟨(some 10), .mov (.c (.int .i64 0)), none⟩ : IOper) ::
          [])))
        (.block 0
         (.loop
          (.seq
           (.seq
            (.keep [2, 3, 7, 8, 9, 10]
            (.reg ((⟨(some 49), .mov (.t 10), none⟩ : IOper) ::
              (⟨(some 50), .fieldAddr 9 (.t 7), none⟩ : IOper) ::
              (⟨(some 51), .load none (.t 50), none⟩ : IOper) ::
              (⟨(some 52), .len (.t 51), none⟩ : IOper) ::
              (⟨(some 53), .bin .lss (.t 49) (.t 52), none⟩ : IOper) ::
              [])))
            (.cond (.t 53)
             .skip
             (.exit 0)))
           (.seq
            (.block 1
             (.keep [2, 3, 7, 8, 9, 10]
             (.reg ((⟨(some 56), .fieldAddr 9 (.t 7), none⟩ : IOper) ::
               (⟨(some 57), .load none (.t 56), none⟩ : IOper) ::
               (⟨(some 58), .mov (.t 10), none⟩ : IOper) ::
               (⟨(some 59), .mov (.t 2), none⟩ : IOper) ::
               (⟨(some 60), .indexSl 1 (.t 57) (.t 58), none⟩ : IOper) ::
               (⟨none, .store 1 (.t 60) (.t 59), none⟩ : IOper) ::
               []))))
            (.keep [2, 3, 7, 8, 9, 10]
            (.reg ((⟨(some 54), .mov (.t 10), none⟩ : IOper) ::
              (⟨(some 55), .bin .add (.t 54) (.c (.int .i64 1)), none⟩ : IOper) ::
              (⟨(some 10), .mov (.t 55), none⟩ : IOper) ::
              []))))))))
       (.seq
        (.seq
         (.keep [2, 3, 7, 8, 9]
         (.reg ((⟨(some 11), .mov (.c (.int .i64 0)), none⟩ : IOper) ::
           [])))
         (.block 2
          (.loop
           (.seq
            (.seq
             (.keep [2, 3, 7, 8, 9, 11]
             (.reg ((⟨(some 61), .mov (.t 11), none⟩ : IOper) ::
               (⟨(some 62), .fieldAddr 3 (.t 7), none⟩ : IOper) ::
               (⟨(some 63), .fieldAddr 4 (.t 62), none⟩ : IOper) ::
               (⟨(some 64), .load none (.t 63), none⟩ : IOper) ::
               (⟨(some 65), .len (.t 64), none⟩ : IOper) ::
               (⟨(some 66), .bin .lss (.t 61) (.t 65), none⟩ : IOper) ::
               [])))
             (.cond (.t 66)
              .skip
              (.exit 2)))
            (.seq
             (.block 3
              (.keep [2, 3, 7, 8, 9, 11]
              (.reg ((⟨(some 69), .fieldAddr 3 (.t 7), none⟩ : IOper) ::
                (⟨(some 70), .fieldAddr 4 (.t 69), none⟩ : IOper) ::
                (⟨(some 71), .load none (.t 70), none⟩ : IOper) ::
                (⟨(some 72), .mov (.t 11), none⟩ : IOper) ::
                (⟨(some 73), .mov (.t 2), none⟩ : IOper) ::
                (⟨(some 74), .indexSl 1 (.t 71) (.t 72), none⟩ : IOper) ::
                (⟨none, .store 1 (.t 74) (.t 73), none⟩ : IOper) ::
                []))))
             (.keep [2, 3, 7, 8, 9, 11]
             (.reg ((⟨(some 67), .mov (.t 11), none⟩ : IOper) ::
               (⟨(some 68), .bin .add (.t 67) (.c (.int .i64 1)), none⟩ : IOper) ::
               (⟨(some 11), .mov (.t 68), none⟩ : IOper) ::
               []))))))))
        (.seq
         (.keep [3, 8, 9]
         (.reg ((⟨(some 75), .fieldAddr 9 (.t 3), none⟩ : IOper) ::
           (⟨(some 76), .load none (.t 75), none⟩ : IOper) ::
           (⟨(some 77), .b2s (.t 76), none⟩ : IOper) ::
           (⟨(some 78), .mov (.t 8), none⟩ : IOper) ::
           (⟨(some 79), .bin .eql (.t 77) (.t 78), none⟩ : IOper) ::
           (⟨(some 80), .mov (.t 79), none⟩ : IOper) ::
           (⟨(some 81), .fieldAddr 3 (.t 3), (some (80, true))⟩ : IOper) ::
           (⟨(some 82), .fieldAddr 4 (.t 81), (some (80, true))⟩ : IOper) ::
           (⟨(some 83), .load none (.t 82), (some (80, true))⟩ : IOper) ::
           (⟨(some 84), .b2s (.t 83), (some (80, true))⟩ : IOper) ::
           (⟨(some 85), .mov (.t 9), (some (80, true))⟩ : IOper) ::
           (⟨(some 86), .bin .eql (.t 84) (.t 85), (some (80, true))⟩ : IOper) ::
           (⟨(some 87), .pick (.t 80) (.t 86) (.c (.kb false)), none⟩ : IOper) ::
           (⟨(some 88), .mov (.t 87), none⟩ : IOper) ::
           (⟨(some 89), .call false (.f 8) [], (some (88, true))⟩ : IOper) ::
           (⟨(some 90), .pick (.t 88) (.t 89) (.c (.kb false)), none⟩ : IOper) ::
           (⟨(some 6), .mov (.t 90), none⟩ : IOper) ::
           [])))
         .ret))))))))
def rd_l12_ActionCopies : List RD := [.tmp 6 true none]
theorem ok_l12_ActionCopies : fnOk Tryd.prog Tryd.f4 ir_l12_ActionCopies rd_l12_ActionCopies = true := by kernel_rfl
def S_l12_ActionCopies : List AV → List Obj → Option (Prop × AV)
  | [.agg [.int .i64 q, .int .u64 a, .int .u64 b, .int .i64 c, .int .i64 f, .bool h, .int .u64 x, .imm (.int .u8) v, .imm (.int .u8) m, .imm (.int .u8) d], .agg [.int .i64 q', .int .u64 a', .int .u64 b', .int .i64 c', .int .i64 f', .bool h', .int .u64 x', .imm (.int .u8) v', .imm (.int .u8) m', .imm (.int .u8) d'], .int .u8 y], [] => some ((True, .bool true))
  | _, _ => none
theorem snd_l12_ActionCopies : SoundS Tryd.prog 4 (RoF S_l12_ActionCopies).sum := by
  refine ro_fn Tryd.func4 ok_l12_ActionCopies (env_cons (s := RoF S_r12_Few) snd_r12_Few (env_cons (s := RoF S_l12_sure) snd_l12_sure (env_cons (s := RwF S_action_Copy) snd_action_Copy (env_cons (s := RoF S_r12_Same) snd_r12_Same (env_cons (s := RoF S_action_Same) snd_action_Same (env_nil _)))))) fun args objs p v e => ?_
  unfold S_l12_ActionCopies at e
  split at e
  · rename_i q a b c f h x v m d q' a' b' c' f' h' x' v' m' d' y
    cases e
    refine ⟨rfl, fun hw ho hp => ?_⟩
    change List Int at v
    change List Int at m
    change List Int at d
    change List Int at v
    change List Int at m
    change List Int at d
    clear hw ho
    have hself := same_selfA q a b c f h x v m d
    have e1 : (v ++ m).take v.length = v := List.take_left
    have e2 : (v ++ m).drop v.length = m := List.drop_left
    have e3 : m.take m.length = m := List.take_length
    have e4 : (v ++ m).drop 0 = v ++ m := rfl
    repeat' (intro t ht; first | (cases t <;> first | (cases ht; done) | ((try simp only [Bool.not_eq_eq_eq_not, Bool.not_true, Bool.not_false, Bool.and_eq_true, Bool.and_eq_false_iff, decide_eq_true_eq, decide_eq_false_iff_not] at ht); (try simp only [Int.toNat_natCast, dflt_int] at ht))) | (refine ht ?_ ?_ <;> clear ht) | (refine ht.1 ?_ ?_ <;> clear ht) | (refine ht ?_; clear ht))
    all_goals (try simp only [e1, e2, e3, e4, hself] at ht)
    all_goals (try simp only [Bool.and_eq_true, decide_eq_true_eq] at *)
    all_goals first
      | exact True.intro
      | contradiction
      | exact ⟨True.intro, True.intro⟩
      | omega
      | (simp only [List.length_append]; omega)
      | (exact ⟨by omega, by omega, by omega⟩)
      | exact ⟨rfl, by first | rfl | exact True.intro⟩
      | (intro r h1 h2; clear h1; refine h2 ⟨[2, 3, 7, 8, 9, 10], Nat × List Int, (fun s => s.1 ≤ d.length ∧ s.2.length = d.length), fun s => [.int .u8 y, .ptr 0 0, .ptr 1 0, .str d, .str v, .int .i64 s.1], fun s => [.box [.int .i64 q, .int .u64 a, .int .u64 b, .int .i64 c, .int .i64 f, .bool h, .int .u64 x, (.imm (.int .u8) v), (.imm (.int .u8) m), (.imm (.int .u8) d)], .box [.int .i64 q, .int .u64 a, .int .u64 b, .int .i64 c, .int .i64 f, .bool h, .int .u64 x, (.view 2 0 v.length), (.view 2 v.length m.length), (.own 3)], .row false (.int .u8) (v ++ m), .row false (.int .u8) s.2], fun s => d.length - s.1, ⟨(0, d), ⟨Nat.zero_le _, rfl⟩, rfl, rfl⟩, ?_⟩; clear h2)
      | (exfalso; simp_all; done)
      | (exfalso; simp only [e1, e2, e3, e4, hself] at *; simp_all; done)
      | trace_state
    rintro ⟨i, l⟩ ⟨hi, hl⟩
    dsimp only at hi hl
    repeat' (intro t ht; first | (cases t <;> first | (cases ht; done) | ((try simp only [Bool.not_eq_eq_eq_not, Bool.not_true, Bool.not_false, Bool.and_eq_true, Bool.and_eq_false_iff, decide_eq_true_eq, decide_eq_false_iff_not] at ht); (try simp only [Int.toNat_natCast, dflt_int] at ht))) | (refine ht ?_ ?_ <;> clear ht) | (refine ht.1 ?_ ?_ <;> clear ht) | (refine ht ?_; clear ht))
    all_goals (try dsimp only)
    all_goals first
      | ((try simp only [min_i64, max_i64, Int.toNat_natCast]); omega)
      | (refine ⟨(i + 1, l.set i y), ⟨?_, ?_⟩, ?_, ?_, ?_⟩
         · dsimp only; omega
         · dsimp only; rw [List.length_set]; exact hl
         · dsimp only; omega
         · rfl
         · rfl)
      | (intro r h1 h2; clear h1; refine h2 ⟨[2, 3, 7, 8, 9, 11], Nat × List Int, (fun s => s.1 ≤ v.length ∧ s.2.length = v.length + m.length), fun s => [.int .u8 y, .ptr 0 0, .ptr 1 0, .str d, .str v, .int .i64 s.1], fun s => [.box [.int .i64 q, .int .u64 a, .int .u64 b, .int .i64 c, .int .i64 f, .bool h, .int .u64 x, (.imm (.int .u8) v), (.imm (.int .u8) m), (.imm (.int .u8) d)], .box [.int .i64 q, .int .u64 a, .int .u64 b, .int .i64 c, .int .i64 f, .bool h, .int .u64 x, (.view 2 0 v.length), (.view 2 v.length m.length), (.own 3)], .row false (.int .u8) s.2, .row false (.int .u8) l], fun s => v.length - s.1, ⟨(0, v ++ m), ⟨Nat.zero_le _, List.length_append⟩, rfl, rfl⟩, ?_⟩; clear h2)
      | trace_state
    rintro ⟨j, l2⟩ ⟨hj, hl2⟩
    dsimp only at hj hl2
    repeat' (intro t ht; first | (cases t <;> first | (cases ht; done) | ((try simp only [Bool.not_eq_eq_eq_not, Bool.not_true, Bool.not_false, Bool.and_eq_true, Bool.and_eq_false_iff, decide_eq_true_eq, decide_eq_false_iff_not] at ht); (try simp only [Int.toNat_natCast, dflt_int] at ht))) | (refine ht ?_ ?_ <;> clear ht) | (refine ht.1 ?_ ?_ <;> clear ht) | (refine ht ?_; clear ht))
    all_goals (try dsimp only)
    all_goals first
      | exact True.intro
      | exact ⟨rfl, by first | rfl | exact True.intro⟩
      | ((try simp only [min_i64, max_i64, Int.toNat_natCast]); omega)
      | (refine ⟨(j + 1, l2.set (0 + j) y), ⟨?_, ?_⟩, ?_, ?_, ?_⟩
         · dsimp only; omega
         · dsimp only; rw [List.length_set]; exact hl2
         · dsimp only; omega
         · rfl
         · rfl)
      | (exfalso; simp_all; done)
      | trace_state
  · cases e
end Go.Eng
