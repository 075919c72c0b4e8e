/- Contracts of functions of the given program, told by plain Lean functions. No condition. -/
import Derived.Test.YtgljcfbcdniffaaDoorProg
import Derived.Test.YtgljcfbcdniffaaDoorESum
import Derived.KernelRfl
import Derived.Test.YtgljcfbcdniffaaDoorOI
namespace Go.Eng
open Go.Proofs
set_option linter.unusedVariables false
set_option linter.unusedSimpArgs false
set_option maxRecDepth 100000
set_option maxHeartbeats 1000000
def ir_l08_OxmCopies : IR :=
 (.seq
  (.keep [0, 1, 2]
  (.reg ((⟨(some 3), .boxv (.t 0), none⟩ : IOper) ::
    (⟨(some 4), .boxv (.t 1), none⟩ : IOper) ::
    (⟨(some 6), .mov (.c (.kb false)), none⟩ : IOper) ::
    [])))
  (.seq
   (.seq
    (.keep [2, 3, 4]
    (.reg ((⟨(some 12), .load (some 6) (.t 3), none⟩ : IOper) ::
      (⟨(some 13), .call false (.f 9) [(.t 12)], none⟩ : IOper) ::
      (⟨(some 14), .un .not (.t 13), none⟩ : IOper) ::
      (⟨(some 15), .mov (.t 14), none⟩ : IOper) ::
      (⟨(some 16), .load (some 6) (.t 4), (some (15, false))⟩ : IOper) ::
      (⟨(some 17), .call false (.f 9) [(.t 16)], (some (15, false))⟩ : IOper) ::
      (⟨(some 18), .un .not (.t 17), (some (15, false))⟩ : IOper) ::
      (⟨(some 19), .pick (.t 15) (.c (.kb true)) (.t 18), none⟩ : IOper) ::
      [])))
    (.cond (.t 19)
     (.seq
      (.keep []
      (.reg ((⟨(some 20), .call false (.f 10) [], none⟩ : IOper) ::
        (⟨(some 6), .mov (.t 20), none⟩ : IOper) ::
        [])))
      .ret)
     .skip))
   (.seq
    (.keep [2, 3, 4]
    (.reg ((⟨(some 21), .load (some 6) (.t 3), none⟩ : IOper) ::
      (⟨(some 22), .call false (.f 11) [(.t 21)], none⟩ : IOper) ::
      (⟨(some 7), .box [.int .i64 0, .int .i64 0, .kb false, .int .u64 0, .imm (.int .u8) [], .imm (.int .u8) []], none⟩ : IOper) ::
      (⟨none, .store 6 (.t 7) (.t 22), none⟩ : IOper) ::
      [])))
    (.seq
     (.seq
      (.keep [2, 3, 4, 7]
      (.regD (((⟨(some 23), .load (some 6) (.t 3), none⟩, []) : IOper × List Nat) ::
        ((⟨(some 24), .load (some 6) (.t 7), none⟩, [0]) : IOper × List Nat) ::
        ((⟨(some 25), .call false (.f 12) [(.t 23), (.t 24)], none⟩, []) : IOper × List Nat) ::
        ((⟨(some 26), .un .not (.t 25), none⟩, []) : IOper × List Nat) ::
        ((⟨(some 27), .mov (.t 26), none⟩, []) : IOper × List Nat) ::
        ((⟨(some 28), .load (some 6) (.t 3), (some (27, false))⟩, []) : IOper × List Nat) ::
        ((⟨(some 29), .load (some 6) (.t 4), (some (27, false))⟩, [0]) : IOper × List Nat) ::
        ((⟨(some 30), .call false (.f 13) [(.t 28), (.t 29)], (some (27, false))⟩, []) : IOper × List Nat) ::
        ((⟨(some 31), .load (some 6) (.t 3), (some (27, false))⟩, [0, 0, 0]) : IOper × List Nat) ::
        ((⟨(some 32), .load (some 6) (.t 4), (some (27, false))⟩, [0, 0, 0, 0]) : IOper × List Nat) ::
        ((⟨(some 33), .call false (.f 12) [(.t 31), (.t 32)], (some (27, false))⟩, []) : IOper × List Nat) ::
        ((⟨(some 34), .eqb true (.t 30) (.t 33), (some (27, false))⟩, []) : IOper × List Nat) ::
        ((⟨(some 35), .pick (.t 27) (.c (.kb true)) (.t 34), none⟩, []) : IOper × List Nat) ::
        ((⟨(some 36), .mov (.t 35), none⟩, []) : IOper × List Nat) ::
        ((⟨(some 37), .load (some 6) (.t 3), (some (36, false))⟩, []) : IOper × List Nat) ::
        ((⟨(some 38), .load (some 6) (.t 4), (some (36, false))⟩, [0]) : IOper × List Nat) ::
        ((⟨(some 39), .call false (.f 14) [(.t 37), (.t 38)], (some (36, false))⟩, []) : IOper × List Nat) ::
        ((⟨(some 40), .load (some 6) (.t 3), (some (36, false))⟩, [0, 0, 0]) : IOper × List Nat) ::
        ((⟨(some 41), .load (some 6) (.t 4), (some (36, false))⟩, [0, 0, 0, 0]) : IOper × List Nat) ::
        ((⟨(some 42), .call false (.f 15) [(.t 40), (.t 41)], (some (36, false))⟩, []) : IOper × List Nat) ::
        ((⟨(some 43), .eqb true (.t 39) (.t 42), (some (36, false))⟩, []) : IOper × List Nat) ::
        ((⟨(some 44), .pick (.t 36) (.c (.kb true)) (.t 43), none⟩, []) : IOper × List Nat) ::
        ((⟨(some 45), .mov (.t 44), none⟩, []) : IOper × List Nat) ::
        ((⟨(some 46), .load (some 6) (.t 3), (some (45, false))⟩, []) : IOper × List Nat) ::
        ((⟨(some 47), .load (some 6) (.t 7), (some (45, false))⟩, [0]) : IOper × List Nat) ::
        ((⟨(some 48), .call false (.f 13) [(.t 46), (.t 47)], (some (45, false))⟩, []) : IOper × List Nat) ::
        ((⟨(some 49), .un .not (.t 48), (some (45, false))⟩, []) : IOper × List Nat) ::
        ((⟨(some 50), .pick (.t 45) (.c (.kb true)) (.t 49), none⟩, []) : IOper × List Nat) ::
        [])))
      (.cond (.t 50)
       (.seq
        (.keep []
        (.reg ((⟨(some 6), .mov (.c (.kb false)), none⟩ : IOper) ::
          [])))
        .ret)
       .skip))
     (.seq
      (.keep [2, 3, 7]
      (.regD (((⟨(some 51), .fieldAddr 4 (.t 3), none⟩, []) : IOper × List Nat) ::
        ((⟨(some 52), .load none (.t 51), none⟩, []) : IOper × List Nat) ::
        ((⟨(some 53), .b2s (.t 52), none⟩, []) : IOper × List Nat) ::
        ((⟨(some 54), .fieldAddr 5 (.t 3), none⟩, [0, 0, 0]) : IOper × List Nat) ::
        ((⟨(some 55), .load none (.t 54), none⟩, [1, 0, 0]) : IOper × List Nat) ::
        ((⟨(some 56), .b2s (.t 55), none⟩, [2, 0, 0]) : IOper × List Nat) ::
        ((⟨(some 8), .mov (.t 53), none⟩, [0, 0, 0]) : IOper × List Nat) ::
        ((⟨(some 9), .mov (.t 56), none⟩, []) : IOper × List Nat) ::
        [])))
      (.seq
       (.seq
        (.keep [2, 3, 7, 8, 9]
        (.reg ((⟨(some 10), .mov (.c (.int .i64 0)), none⟩ : IOper) ::
          [])))
        (.block 0
         (.loop
          (.seq
           (.seq
            (.keep [2, 3, 7, 8, 9, 10]
            (.reg ((⟨(some 57), .mov (.t 10), none⟩ : IOper) ::
              (⟨(some 58), .fieldAddr 4 (.t 7), none⟩ : IOper) ::
              (⟨(some 59), .load none (.t 58), none⟩ : IOper) ::
              (⟨(some 60), .len (.t 59), none⟩ : IOper) ::
              (⟨(some 61), .bin .lss (.t 57) (.t 60), none⟩ : IOper) ::
              [])))
            (.cond (.t 61)
             .skip
             (.exit 0)))
           (.seq
            (.block 1
             (.keep [2, 3, 7, 8, 9, 10]
             (.reg ((⟨(some 64), .fieldAddr 4 (.t 7), none⟩ : IOper) ::
               (⟨(some 65), .load none (.t 64), none⟩ : IOper) ::
               (⟨(some 66), .mov (.t 10), none⟩ : IOper) ::
               (⟨(some 67), .mov (.t 2), none⟩ : IOper) ::
               (⟨(some 68), .indexSl 1 (.t 65) (.t 66), none⟩ : IOper) ::
               (⟨none, .store 1 (.t 68) (.t 67), none⟩ : IOper) ::
               []))))
            (.keep [2, 3, 7, 8, 9, 10]
            (.reg ((⟨(some 62), .mov (.t 10), none⟩ : IOper) ::
              (⟨(some 63), .bin .add (.t 62) (.c (.int .i64 1)), none⟩ : IOper) ::
              (⟨(some 10), .mov (.t 63), none⟩ : IOper) ::
              []))))))))
       (.seq
        (.seq
         (.keep [2, 3, 7, 8, 9]
         (.reg ((⟨(some 11), .mov (.c (.int .i64 0)), none⟩ : IOper) ::
           [])))
         (.block 2
          (.loop
           (.seq
            (.seq
             (.keep [2, 3, 7, 8, 9, 11]
             (.reg ((⟨(some 69), .mov (.t 11), none⟩ : IOper) ::
               (⟨(some 70), .fieldAddr 5 (.t 7), none⟩ : IOper) ::
               (⟨(some 71), .load none (.t 70), none⟩ : IOper) ::
               (⟨(some 72), .len (.t 71), none⟩ : IOper) ::
               (⟨(some 73), .bin .lss (.t 69) (.t 72), none⟩ : IOper) ::
               [])))
             (.cond (.t 73)
              .skip
              (.exit 2)))
            (.seq
             (.block 3
              (.keep [2, 3, 7, 8, 9, 11]
              (.reg ((⟨(some 76), .fieldAddr 5 (.t 7), none⟩ : IOper) ::
                (⟨(some 77), .load none (.t 76), none⟩ : IOper) ::
                (⟨(some 78), .mov (.t 11), none⟩ : IOper) ::
                (⟨(some 79), .mov (.t 2), none⟩ : IOper) ::
                (⟨(some 80), .indexSl 1 (.t 77) (.t 78), none⟩ : IOper) ::
                (⟨none, .store 1 (.t 80) (.t 79), none⟩ : IOper) ::
                []))))
             (.keep [2, 3, 7, 8, 9, 11]
             (.reg ((⟨(some 74), .mov (.t 11), none⟩ : IOper) ::
               (⟨(some 75), .bin .add (.t 74) (.c (.int .i64 1)), none⟩ : IOper) ::
               (⟨(some 11), .mov (.t 75), none⟩ : IOper) ::
               []))))))))
        (.seq
         (.keep [3, 8, 9]
         (.reg ((⟨(some 81), .fieldAddr 4 (.t 3), none⟩ : IOper) ::
           (⟨(some 82), .load none (.t 81), none⟩ : IOper) ::
           (⟨(some 83), .b2s (.t 82), none⟩ : IOper) ::
           (⟨(some 84), .mov (.t 8), none⟩ : IOper) ::
           (⟨(some 85), .bin .eql (.t 83) (.t 84), none⟩ : IOper) ::
           (⟨(some 86), .mov (.t 85), none⟩ : IOper) ::
           (⟨(some 87), .fieldAddr 5 (.t 3), (some (86, true))⟩ : IOper) ::
           (⟨(some 88), .load none (.t 87), (some (86, true))⟩ : IOper) ::
           (⟨(some 89), .b2s (.t 88), (some (86, true))⟩ : IOper) ::
           (⟨(some 90), .mov (.t 9), (some (86, true))⟩ : IOper) ::
           (⟨(some 91), .bin .eql (.t 89) (.t 90), (some (86, true))⟩ : IOper) ::
           (⟨(some 92), .pick (.t 86) (.t 91) (.c (.kb false)), none⟩ : IOper) ::
           (⟨(some 93), .mov (.t 92), none⟩ : IOper) ::
           (⟨(some 94), .call false (.f 10) [], (some (93, true))⟩ : IOper) ::
           (⟨(some 95), .pick (.t 93) (.t 94) (.c (.kb false)), none⟩ : IOper) ::
           (⟨(some 6), .mov (.t 95), none⟩ : IOper) ::
           [])))
         .ret))))))))
def rd_l08_OxmCopies : List RD := [.tmp 6 true none]
theorem ok_l08_OxmCopies : fnOk Tryd.prog Tryd.f3 ir_l08_OxmCopies rd_l08_OxmCopies = true := by kernel_rfl
def S_l08_OxmCopies : List AV → List Obj → Option (Prop × AV)
  | [.agg [.int .i64 c, .int .i64 f, .bool h, .int .u64 x, .imm (.int .u8) v, .imm (.int .u8) m], .agg [.int .i64 c', .int .i64 f', .bool h', .int .u64 x', .imm (.int .u8) v', .imm (.int .u8) m'], .int .u8 y], [] => some ((True, .bool true))
  | _, _ => none
theorem snd_l08_OxmCopies : SoundS Tryd.prog 3 (RoF S_l08_OxmCopies).sum := by
  refine ro_fn Tryd.func3 ok_l08_OxmCopies (env_cons (s := RoF S_r08_Few) snd_r08_Few (env_cons (s := RoF S_l08_sure) snd_l08_sure (env_cons (s := RwF S_oxm_Copy) snd_oxm_Copy (env_cons (s := RoF S_r08_Same) snd_r08_Same (env_cons (s := RoF S_oxm_Same) snd_oxm_Same (env_cons (s := RoF S_oxm_Alike) snd_oxm_Alike (env_cons (s := RoF S_r08_Alike) snd_r08_Alike (env_nil _)))))))) fun args objs p v e => ?_
  unfold S_l08_OxmCopies at e
  split at e
  · rename_i c f h x v m c' f' h' x' v' m' y
    cases e
    refine ⟨rfl, fun hw ho hp => ?_⟩
    change List Int at v
    change List Int at m
    change List Int at v
    change List Int at m
    have hself := same_self c f h x v m
    have e1 : (v ++ m).take v.length = v := List.take_left
    have e2 : (v ++ m).drop v.length = m := List.drop_left
    have e3 : m.take m.length = m := List.take_length
    have e4 : (v ++ m).drop 0 = v ++ m := rfl
    repeat' (intro t ht; first | (cases t <;> first | (cases ht; done) | ((try simp only [Bool.not_eq_eq_eq_not, Bool.not_true, Bool.not_false, Bool.and_eq_true, Bool.and_eq_false_iff, decide_eq_true_eq, decide_eq_false_iff_not] at ht); (try simp only [Int.toNat_natCast, dflt_int] at ht))) | (refine ht ?_ ?_ <;> clear ht) | (refine ht.1 ?_ ?_ <;> clear ht) | (refine ht ?_; clear ht))
    all_goals (try simp only [e1, e2, e3, e4, hself] at ht)
    all_goals first
      | exact True.intro
      | contradiction
      | (simp only [List.length_append]; omega)
      | omega
      | exact ⟨rfl, by first | rfl | exact True.intro⟩
      | (intro r h1 h2; refine h2 ⟨[2, 3, 7, 8, 9, 10], Nat × List Int, (fun a => a.1 ≤ v.length ∧ a.2.length = v.length + m.length), fun a => [.int .u8 y, .ptr 0 0, .ptr 1 0, .str v, .str m, .int .i64 a.1], fun a => [.box [.int .i64 c, .int .i64 f, .bool h, .int .u64 x, .imm (.int .u8) v, .imm (.int .u8) m], .box [.int .i64 c, .int .i64 f, .bool h, .int .u64 x, .view 2 0 v.length, .view 2 v.length m.length], .row false (.int .u8) a.2], fun a => v.length - a.1, ⟨(0, v ++ m), ⟨Nat.zero_le _, List.length_append⟩, rfl, rfl⟩, ?_⟩; clear h1 h2)
      | (exfalso; simp_all; done)
      | (exfalso; simp only [e1, e2, e3, e4, hself] at *; simp_all; done)
      | trace_state
    rintro ⟨i, l⟩ ⟨hi, hl⟩
    dsimp only at hi hl
    repeat' (intro t ht; first | (cases t <;> first | (cases ht; done) | ((try simp only [Bool.not_eq_eq_eq_not, Bool.not_true, Bool.not_false, Bool.and_eq_true, Bool.and_eq_false_iff, decide_eq_true_eq, decide_eq_false_iff_not] at ht); (try simp only [Int.toNat_natCast, dflt_int] at ht))) | (refine ht ?_ ?_ <;> clear ht) | (refine ht.1 ?_ ?_ <;> clear ht) | (refine ht ?_; clear ht))
    all_goals (try dsimp only)
    all_goals first
      | ((try simp only [min_i64, max_i64, Int.toNat_natCast]); omega)
      | (refine ⟨(i + 1, l.set (0 + i) y), ⟨?_, ?_⟩, ?_, ?_, ?_⟩
         · dsimp only; omega
         · dsimp only; rw [List.length_set]; exact hl
         · dsimp only; omega
         · rfl
         · rfl)
      | (intro r h1 h2; refine h2 ⟨[2, 3, 7, 8, 9, 11], Nat × List Int, (fun a => a.1 ≤ m.length ∧ a.2.length = v.length + m.length), fun a => [.int .u8 y, .ptr 0 0, .ptr 1 0, .str v, .str m, .int .i64 a.1], fun a => [.box [.int .i64 c, .int .i64 f, .bool h, .int .u64 x, .imm (.int .u8) v, .imm (.int .u8) m], .box [.int .i64 c, .int .i64 f, .bool h, .int .u64 x, .view 2 0 v.length, .view 2 v.length m.length], .row false (.int .u8) a.2], fun a => m.length - a.1, ⟨(0, l), ⟨Nat.zero_le _, hl⟩, rfl, rfl⟩, ?_⟩; clear h1 h2)
      | trace_state
    rintro ⟨j, l⟩ ⟨hj, hl⟩
    dsimp only at hj hl
    repeat' (intro t ht; first | (cases t <;> first | (cases ht; done) | ((try simp only [Bool.not_eq_eq_eq_not, Bool.not_true, Bool.not_false, Bool.and_eq_true, Bool.and_eq_false_iff, decide_eq_true_eq, decide_eq_false_iff_not] at ht); (try simp only [Int.toNat_natCast, dflt_int] at ht))) | (refine ht ?_ ?_ <;> clear ht) | (refine ht.1 ?_ ?_ <;> clear ht) | (refine ht ?_; clear ht))
    all_goals (try dsimp only)
    all_goals first
      | exact True.intro
      | exact ⟨rfl, by first | rfl | exact True.intro⟩
      | ((try simp only [min_i64, max_i64, Int.toNat_natCast]); omega)
      | (refine ⟨(j + 1, l.set (v.length + j) y), ⟨?_, ?_⟩, ?_, ?_, ?_⟩
         · dsimp only; omega
         · dsimp only; rw [List.length_set]; exact hl
         · dsimp only; omega
         · rfl
         · rfl)
      | (exfalso; simp_all; done)
      | trace_state
  · cases e
end Go.Eng
