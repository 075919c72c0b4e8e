/- Contracts of functions of the given program, told by plain Lean functions. No condition. -/
import Derived.Test.YtgljcfbcdniffaaDoorProg
import Derived.Test.YtgljcfbcdniffaaDoorESum
import Derived.KernelRfl
import Derived.Test.YtgljcfbcdniffaaDoorP7
namespace Go.Eng
open Go.Proofs
set_option linter.unusedVariables false
set_option linter.unusedSimpArgs false
set_option maxRecDepth 100000
set_option maxHeartbeats 1000000
def ir_r19_Decode : IR :=
 (.seq
  (.keep [0]
  (.reg ((⟨(some 2), .nilrow (.cons (.int .u64) (.cons (.int .u64) (.cons .str (.cons (.cons (.int .u64) (.cons (.int .u64) (.cons (.int .u64) (.cons (.int .u64) (.cons (.int .u64) (.cons (.int .u64) (.cons (.int .u64) (.cons (.int .u64) .nil)))))))) .nil)))), none⟩ : IOper) ::
    (⟨(some 3), .mov (.c (.int .i64 0)), none⟩ : IOper) ::
    [])))
  (.seq
   (.reg ((⟨(some 14), .mov (.t 0), none⟩ : IOper) ::
     (⟨(some 15), .len (.t 14), none⟩ : IOper) ::
     (⟨(some 4), .mov (.t 15), none⟩ : IOper) ::
     []))
   (.seq
    (.reg ((⟨(some 5), .nilrow (.cons (.int .u64) (.cons (.int .u64) (.cons .str (.cons (.cons (.int .u64) (.cons (.int .u64) (.cons (.int .u64) (.cons (.int .u64) (.cons (.int .u64) (.cons (.int .u64) (.cons (.int .u64) (.cons (.int .u64) .nil)))))))) .nil)))), none⟩ : IOper) ::
      []))
    (.seq
     (.block 0
      (.loop
       (.seq
        (.seq
         (.keep [0, 4, 5]
         (.reg ((⟨(some 16), .mov (.t 0), none⟩ : IOper) ::
           (⟨(some 17), .len (.t 16), none⟩ : IOper) ::
           (⟨(some 18), .bin .gtr (.t 17) (.c (.int .i64 0)), none⟩ : IOper) ::
           [])))
         (.cond (.t 18)
          .skip
          (.exit 0)))
        (.block 1
         (.seq
          (.seq
           (.reg ((⟨(some 19), .mov (.t 0), none⟩ : IOper) ::
             (⟨(some 20), .len (.t 19), none⟩ : IOper) ::
             (⟨(some 21), .bin .lss (.t 20) (.c (.int .i64 64)), none⟩ : IOper) ::
             []))
           (.cond (.t 21)
            (.seq
             (.keep []
             (.reg ((⟨(some 2), .nilrow (.cons (.int .u64) (.cons (.int .u64) (.cons .str (.cons (.cons (.int .u64) (.cons (.int .u64) (.cons (.int .u64) (.cons (.int .u64) (.cons (.int .u64) (.cons (.int .u64) (.cons (.int .u64) (.cons (.int .u64) .nil)))))))) .nil)))), none⟩ : IOper) ::
               (⟨(some 3), .mov (.c (.int .i64 263)), none⟩ : IOper) ::
               [])))
             .ret)
            .skip))
          (.seq
           (.keep [0, 4, 5]
           (.reg ((⟨(some 23), .sliceAll (.int .i64) 4 [(0, 1, (.c (.int .i64 4))), (1, 1, (.c (.int .i64 (-4)))), (2, 1, (.c (.int .i64 6))), (3, 1, (.c (.int .i64 (-2))))], none⟩ : IOper) ::
             (⟨(some 24), .mov (.t 0), none⟩ : IOper) ::
             (⟨(some 25), .call false (.f 50) [(.t 23), (.t 24)], none⟩ : IOper) ::
             (⟨(some 22), .mov (.t 25), none⟩ : IOper) ::
             (⟨(some 26), .extract (.t 22) 0, none⟩ : IOper) ::
             (⟨(some 27), .extract (.t 22) 1, none⟩ : IOper) ::
             (⟨(some 6), .mov (.t 26), none⟩ : IOper) ::
             (⟨(some 7), .mov (.t 27), none⟩ : IOper) ::
             [])))
           (.seq
            (.seq
             (.keep [0, 4, 5, 6, 7]
             (.reg ((⟨(some 28), .mov (.t 7), none⟩ : IOper) ::
               (⟨(some 29), .bin .neq (.t 28) (.c (.int .i64 0)), none⟩ : IOper) ::
               [])))
             (.cond (.t 29)
              (.seq
               (.reg ((⟨(some 2), .nilrow (.cons (.int .u64) (.cons (.int .u64) (.cons .str (.cons (.cons (.int .u64) (.cons (.int .u64) (.cons (.int .u64) (.cons (.int .u64) (.cons (.int .u64) (.cons (.int .u64) (.cons (.int .u64) (.cons (.int .u64) .nil)))))))) .nil)))), none⟩ : IOper) ::
                 (⟨(some 3), .mov (.c (.int .i64 269)), none⟩ : IOper) ::
                 []))
               .ret)
              .skip))
            (.seq
             (.seq
              (.reg ((⟨(some 30), .mov (.t 6), none⟩ : IOper) ::
                (⟨(some 31), .indexSl 1 (.t 30) (.c (.int .i64 0)), none⟩ : IOper) ::
                (⟨(some 32), .load none (.t 31), none⟩ : IOper) ::
                (⟨(some 33), .bin .eql (.t 32) (.c (.int .u64 0)), none⟩ : IOper) ::
                []))
              (.cond (.t 33)
               (.seq
                (.keep []
                (.reg ((⟨(some 2), .nilrow (.cons (.int .u64) (.cons (.int .u64) (.cons .str (.cons (.cons (.int .u64) (.cons (.int .u64) (.cons (.int .u64) (.cons (.int .u64) (.cons (.int .u64) (.cons (.int .u64) (.cons (.int .u64) (.cons (.int .u64) .nil)))))))) .nil)))), none⟩ : IOper) ::
                  (⟨(some 3), .mov (.c (.int .i64 268)), none⟩ : IOper) ::
                  [])))
                .ret)
               .skip))
             (.seq
              (.keep [0, 4, 5, 6]
              (.reg ((⟨(some 35), .mov (.t 0), none⟩ : IOper) ::
                (⟨(some 36), .slice 1 (.t 35) (some (.c (.int .i64 16))) (some (.c (.int .i64 32))) none, none⟩ : IOper) ::
                (⟨(some 37), .call false (.f 51) [(.t 36)], none⟩ : IOper) ::
                (⟨(some 34), .mov (.t 37), none⟩ : IOper) ::
                (⟨(some 38), .extract (.t 34) 0, none⟩ : IOper) ::
                (⟨(some 39), .extract (.t 34) 1, none⟩ : IOper) ::
                (⟨(some 8), .mov (.t 38), none⟩ : IOper) ::
                (⟨(some 9), .mov (.t 39), none⟩ : IOper) ::
                [])))
              (.seq
               (.seq
                (.keep [0, 4, 5, 6, 8, 9]
                (.reg ((⟨(some 40), .mov (.t 9), none⟩ : IOper) ::
                  (⟨(some 41), .un .not (.t 40), none⟩ : IOper) ::
                  [])))
                (.cond (.t 41)
                 (.seq
                  (.reg ((⟨(some 2), .nilrow (.cons (.int .u64) (.cons (.int .u64) (.cons .str (.cons (.cons (.int .u64) (.cons (.int .u64) (.cons (.int .u64) (.cons (.int .u64) (.cons (.int .u64) (.cons (.int .u64) (.cons (.int .u64) (.cons (.int .u64) .nil)))))))) .nil)))), none⟩ : IOper) ::
                    (⟨(some 3), .mov (.c (.int .i64 269)), none⟩ : IOper) ::
                    []))
                  .ret)
                 .skip))
               (.seq
                (.keep [0, 4, 5, 6, 8]
                (.reg ((⟨(some 43), .sliceAll (.int .i64) 8 [(0, 1, (.c (.int .i64 4))), (1, 1, (.c (.int .i64 4))), (2, 1, (.c (.int .i64 4))), (3, 1, (.c (.int .i64 4))), (4, 1, (.c (.int .i64 4))), (5, 1, (.c (.int .i64 4))), (6, 1, (.c (.int .i64 4))), (7, 1, (.c (.int .i64 4)))], none⟩ : IOper) ::
                  (⟨(some 44), .mov (.t 0), none⟩ : IOper) ::
                  (⟨(some 45), .slice 1 (.t 44) (some (.c (.int .i64 32))) none none, none⟩ : IOper) ::
                  (⟨(some 46), .call false (.f 50) [(.t 43), (.t 45)], none⟩ : IOper) ::
                  (⟨(some 42), .mov (.t 46), none⟩ : IOper) ::
                  (⟨(some 47), .extract (.t 42) 0, none⟩ : IOper) ::
                  (⟨(some 48), .extract (.t 42) 1, none⟩ : IOper) ::
                  (⟨(some 10), .mov (.t 47), none⟩ : IOper) ::
                  (⟨(some 11), .mov (.t 48), none⟩ : IOper) ::
                  [])))
                (.seq
                 (.keep [0, 4, 5, 6, 8, 10]
                 (.regD (((⟨(some 49), .mov (.t 6), none⟩, []) : IOper × List Nat) ::
                   ((⟨(some 50), .indexSl 1 (.t 49) (.c (.int .i64 0)), none⟩, []) : IOper × List Nat) ::
                   ((⟨(some 51), .load none (.t 50), none⟩, []) : IOper × List Nat) ::
                   ((⟨(some 52), .mov (.t 6), none⟩, [0, 0, 0]) : IOper × List Nat) ::
                   ((⟨(some 53), .indexSl 1 (.t 52) (.c (.int .i64 1)), none⟩, [1, 0, 0]) : IOper × List Nat) ::
                   ((⟨(some 54), .load none (.t 53), none⟩, [2, 0, 0]) : IOper × List Nat) ::
                   ((⟨(some 55), .mov (.t 8), none⟩, [0, 0, 0, 0, 0, 0]) : IOper × List Nat) ::
                   ((⟨(some 56), .build [.int .u64 0, .int .u64 0, .str [], .int .u64 0, .int .u64 0, .int .u64 0, .int .u64 0, .int .u64 0, .int .u64 0, .int .u64 0, .int .u64 0] [(0, 1, (.t 51)), (1, 1, (.t 54)), (2, 1, (.t 55))], none⟩, []) : IOper × List Nat) ::
                   ((⟨(some 12), .box [.int .u64 0, .int .u64 0, .str [], .int .u64 0, .int .u64 0, .int .u64 0, .int .u64 0, .int .u64 0, .int .u64 0, .int .u64 0, .int .u64 0], none⟩, [0, 0, 0, 0, 0, 0, 0, 0]) : IOper × List Nat) ::
                   ((⟨none, .store 11 (.t 12) (.t 56), none⟩, []) : IOper × List Nat) ::
                   [])))
                 (.seq
                  (.seq
                   (.keep [0, 4, 5, 10, 12]
                   (.reg ((⟨(some 13), .mov (.c (.int .i64 0)), none⟩ : IOper) ::
                     [])))
                   (.block 2
                    (.loop
                     (.seq
                      (.seq
                       (.keep [0, 4, 5, 10, 12, 13]
                       (.reg ((⟨(some 57), .mov (.t 13), none⟩ : IOper) ::
                         (⟨(some 58), .bin .lss (.t 57) (.c (.int .i64 8)), none⟩ : IOper) ::
                         [])))
                       (.cond (.t 58)
                        .skip
                        (.exit 2)))
                      (.seq
                       (.block 3
                        (.keep [0, 4, 5, 10, 12, 13]
                        (.reg ((⟨(some 61), .mov (.t 13), none⟩ : IOper) ::
                          (⟨(some 62), .mov (.t 10), none⟩ : IOper) ::
                          (⟨(some 63), .mov (.t 13), none⟩ : IOper) ::
                          (⟨(some 64), .indexSl 1 (.t 62) (.t 63), none⟩ : IOper) ::
                          (⟨(some 65), .load none (.t 64), none⟩ : IOper) ::
                          (⟨(some 66), .fieldAddr 3 (.t 12), none⟩ : IOper) ::
                          (⟨(some 67), .indexArr 1 8 (.t 66) (.t 61), none⟩ : IOper) ::
                          (⟨none, .store 1 (.t 67) (.t 65), none⟩ : IOper) ::
                          []))))
                       (.keep [0, 4, 5, 10, 12, 13]
                       (.reg ((⟨(some 59), .mov (.t 13), none⟩ : IOper) ::
                         (⟨(some 60), .bin .add (.t 59) (.c (.int .i64 1)), none⟩ : IOper) ::
                         (⟨(some 13), .mov (.t 60), none⟩ : IOper) ::
                         []))))))))
                  (.seq
                   (.keep [0, 4, 5, 12]
                   (.reg ((⟨(some 68), .mov (.t 5), none⟩ : IOper) ::
                     (⟨(some 69), .load (some 11) (.t 12), none⟩ : IOper) ::
                     (⟨(some 70), .sliceAll (.cons (.int .u64) (.cons (.int .u64) (.cons .str (.cons (.cons (.int .u64) (.cons (.int .u64) (.cons (.int .u64) (.cons (.int .u64) (.cons (.int .u64) (.cons (.int .u64) (.cons (.int .u64) (.cons (.int .u64) .nil)))))))) .nil)))) 1 [(0, 11, (.t 69))], none⟩ : IOper) ::
                     (⟨(some 71), .append (.cons (.int .u64) (.cons (.int .u64) (.cons .str (.cons (.cons (.int .u64) (.cons (.int .u64) (.cons (.int .u64) (.cons (.int .u64) (.cons (.int .u64) (.cons (.int .u64) (.cons (.int .u64) (.cons (.int .u64) .nil)))))))) .nil)))) 96 (.t 68) (.t 70), none⟩ : IOper) ::
                     (⟨(some 5), .mov (.t 71), none⟩ : IOper) ::
                     [])))
                   (.reg ((⟨(some 72), .mov (.t 0), none⟩ : IOper) ::
                     (⟨(some 73), .slice 1 (.t 72) (some (.c (.int .i64 64))) none none, none⟩ : IOper) ::
                     (⟨(some 0), .mov (.t 73), none⟩ : IOper) ::
                     []))))))))))))))))
     (.seq
      (.seq
       (.keep [4, 5]
       (.reg ((⟨(some 74), .mov (.t 4), none⟩ : IOper) ::
         (⟨(some 75), .bin .gtr (.t 74) (.c (.int .i64 65472)), none⟩ : IOper) ::
         [])))
       (.cond (.t 75)
        (.seq
         (.reg ((⟨(some 2), .nilrow (.cons (.int .u64) (.cons (.int .u64) (.cons .str (.cons (.cons (.int .u64) (.cons (.int .u64) (.cons (.int .u64) (.cons (.int .u64) (.cons (.int .u64) (.cons (.int .u64) (.cons (.int .u64) (.cons (.int .u64) .nil)))))))) .nil)))), none⟩ : IOper) ::
           (⟨(some 3), .mov (.c (.int .i64 263)), none⟩ : IOper) ::
           []))
         .ret)
        .skip))
      (.seq
       (.reg ((⟨(some 76), .mov (.t 5), none⟩ : IOper) ::
         (⟨(some 2), .mov (.t 76), none⟩ : IOper) ::
         (⟨(some 3), .mov (.c (.int .i64 0)), none⟩ : IOper) ::
         []))
       .ret))))))
def rd_r19_Decode : List RD := [.tmp 2 true (some (.cons (.int .u64) (.cons (.int .u64) (.cons .str (.cons (.cons (.int .u64) (.cons (.int .u64) (.cons (.int .u64) (.cons (.int .u64) (.cons (.int .u64) (.cons (.int .u64) (.cons (.int .u64) (.cons (.int .u64) .nil)))))))) .nil))))), .tmp 3 true none]
theorem ok_r19_Decode : fnOk Tryd.prog Tryd.f18 ir_r19_Decode rd_r19_Decode = true := by kernel_rfl
def S_r19_Decode : List AV → List Obj → Option (Prop × AV)
  | [.imm (.int .u8) b], [] => some ((b.length ≤ 60000, .tup [.imm (.cons (.int .u64) (.cons (.int .u64) (.cons .str (.cons (.cons (.int .u64) (.cons (.int .u64) (.cons (.int .u64) (.cons (.int .u64) (.cons (.int .u64) (.cons (.int .u64) (.cons (.int .u64) (.cons (.int .u64) .nil)))))))) .nil)))) (dL b), .int .i64 (dE b)]))
  | _, _ => none
theorem snd_r19_Decode : SoundS Tryd.prog 18 (RoF S_r19_Decode).sum := by
  refine ro_fn Tryd.func18 ok_r19_Decode (env_cons (s := RoF S_r01_Get) snd_r01_Get (env_cons (s := RoF S_r19_name) snd_r19_name (env_nil _))) fun args objs p v e => ?_
  unfold S_r19_Decode at e
  split at e
  · rename_i b
    cases e
    refine ⟨rfl, fun hw ho hp => ?_⟩
    change List Int at b
    clear hw ho
    repeat' (intro t ht; first | (cases t <;> first | (cases ht; done) | ((try simp only [Bool.not_eq_eq_eq_not, Bool.not_true, Bool.not_false, Bool.and_eq_true, Bool.and_eq_false_iff, decide_eq_true_eq, decide_eq_false_iff_not] at ht); (try simp only [Int.toNat_natCast, dflt_int] at ht))) | (refine ht ?_ ?_ <;> clear ht) | (refine ht.1 ?_ ?_ <;> clear ht) | (refine ht ?_; clear ht))
    all_goals first
      | exact True.intro
      | (intro r h1 h2; clear h1; refine h2 ⟨[0, 4, 5], List Int × List PV, (fun a => 64 * a.2.length + a.1.length ≤ b.length ∧ (dG b).1 = a.2 ++ (dG a.1).1 ∧ (dG b).2.1 = (dG a.1).2.1), fun a => [.imm (.int .u8) a.1, .int .i64 b.length, .own 0], fun a => [.row false (.cons (.int .u64) (.cons (.int .u64) (.cons .str (.cons (.cons (.int .u64) (.cons (.int .u64) (.cons (.int .u64) (.cons (.int .u64) (.cons (.int .u64) (.cons (.int .u64) (.cons (.int .u64) (.cons (.int .u64) .nil)))))))) .nil)))) a.2], fun a => a.1.length, ⟨(b, []), ⟨by simp, rfl, rfl⟩, rfl, rfl⟩, ?_⟩; clear h2)
      | trace_state
    rintro ⟨y, acc⟩ ⟨hl, j1, j2⟩
    dsimp only at hl j1 j2
    have hG2 : 64 ≤ y.length → getK [4, -4, 6, -2] y = 0 → (getL [4, -4, 6, -2] y).length = 2 := fun h hk => by
      have hf := getF_w1 (y := y) (by omega)
      cases z : z1 y with
      | false => rw [z] at hf; have : getK [4, -4, 6, -2] y = 2 := congrArg Prod.snd hf; omega
      | true => rw [z] at hf; have : getL [4, -4, 6, -2] y = _ := congrArg Prod.fst hf; rw [this]; rfl
    have hG8 : 64 ≤ y.length → (getL [4, 4, 4, 4, 4, 4, 4, 4] (y.drop 32)).length = 8 := fun h => by
      have hf := getF_w2 (y := y.drop 32) (by rw [List.length_drop]; omega)
      have : getL [4, 4, 4, 4, 4, 4, 4, 4] (y.drop 32) = _ := congrArg Prod.fst hf
      rw [this]; rfl
    have hN : (y.take 32).drop 16 = (y.drop 16).take 16 := by rw [List.drop_take]
    repeat' (intro t ht; first | (cases t <;> first | (cases ht; done) | ((try simp only [Bool.not_eq_eq_eq_not, Bool.not_true, Bool.not_false, Bool.and_eq_true, Bool.and_eq_false_iff, decide_eq_true_eq, decide_eq_false_iff_not] at ht); (try simp only [Int.toNat_natCast, dflt_int] at ht); (try (exfalso; first | contradiction | omega)))) | (refine ht ?_ ?_ <;> clear ht) | (refine ht.1 ?_ ?_ <;> clear ht) | (refine ht ?_; clear ht))
    all_goals (try dsimp only)
    all_goals first
      | omega
      | (have h2 := hG2 (by omega) (by assumption); omega)
      | (show ((y.take 32).drop 16).length = 16; rw [List.length_drop, List.length_take]; omega)
      | (have hn : y.length = 0 := by omega
         rw [dG_nil hn] at j1 j2
         have d1 : dL b = acc := by unfold dL; rw [j2, j1, if_pos rfl, List.append_nil]
         have d2 : dE b = 0 := j2
         rw [d1, d2]; exact ⟨rfl, rfl⟩)
      | (have hn : y.length < 64 := by omega
         rw [dG_short (by omega) hn] at j2
         have d1 : dL b = [] := by unfold dL; rw [j2]; rfl
         have d2 : dE b = 263 := j2
         rw [d1, d2]; exact ⟨rfl, rfl⟩)
      | (have hr : rpE y = 269 := if_pos (by assumption)
         obtain ⟨d1, d2⟩ := dG_err (by omega) hr (by decide) j2
         rw [d1, d2]; exact ⟨rfl, rfl⟩)
      | (have hr : rpE y = 268 := by
           unfold rpE; rw [if_neg (not_not_intro (show getK pw1 y = 0 by assumption))]; exact if_pos (by assumption)
         obtain ⟨d1, d2⟩ := dG_err (by omega) hr (by decide) j2
         rw [d1, d2]; exact ⟨rfl, rfl⟩)
      | (have hm : nmK ((y.take 32).drop 16) = false := by assumption
         rw [hN] at hm
         have hr : rpE y = 269 := by
           unfold rpE; rw [if_neg (not_not_intro (show getK pw1 y = 0 by assumption)), hm]; exact if_neg (by assumption)
         obtain ⟨d1, d2⟩ := dG_err (by omega) hr (by decide) j2
         rw [d1, d2]; exact ⟨rfl, rfl⟩)
      | (intro r h1 h2; refine h1 ⟨9, ?_⟩; clear h1 h2)
    all_goals (have h2 := hG2 (by omega) (by assumption); have h8 := hG8 (by omega))
    all_goals repeat' (intro t ht; first | (cases t <;> first | (cases ht; done) | ((try simp only [Bool.not_eq_eq_eq_not, Bool.not_true, Bool.not_false, Bool.and_eq_true, Bool.and_eq_false_iff, decide_eq_true_eq, decide_eq_false_iff_not] at ht); (try simp only [Int.toNat_natCast, dflt_int] at ht); (try (exfalso; first | contradiction | omega)))) | (refine ht ?_ ?_ <;> clear ht) | (refine ht.1 ?_ ?_ <;> clear ht) | (refine ht ?_; clear ht))
    all_goals (try dsimp only)
    all_goals first
      | omega
      | (have h8' : (getL [4, 4, 4, 4, 4, 4, 4, 4] (y.drop (Int.toNat 32))).length = 8 := h8; omega)
      | ((try simp only [Int.toNat_natCast, dflt_int, decide_eq_true_eq, decide_eq_false_iff_not, Bool.not_eq_eq_eq_not, Bool.not_true, Bool.not_false, Bool.and_eq_true, Bool.and_eq_false_iff, min_i64, max_i64, min_u64, max_u64, min_u32, max_u32, min_u16, max_u16, min_u8, max_u8] at *); omega)
      | (simp only [cast_rfl, List.length_cons, List.length_nil]; omega)
      | (have hm : nmK ((y.take 32).drop 16) = true := by assumption
         rw [hN] at hm
         have hr : rpE y = 0 := by
           unfold rpE; rw [if_neg (not_not_intro (show getK pw1 y = 0 by assumption)), hm]; exact if_neg (by assumption)
         have hd := dG_fine (by omega) hr
         rw [hd] at j1 j2
         have hN' : List.drop (Int.toNat 16) (List.take (Int.toNat 32) y) = (y.drop 16).take 16 := hN
         have hyl : (y.drop 64).length = y.length - 64 := List.length_drop
         refine ⟨(y.drop 64, acc ++ [rpV y]), ⟨?_, ?_, j2⟩, ?_, rfl, ?_⟩
         · simp only [List.length_append, List.length_cons, List.length_nil]; omega
         · dsimp only; rw [j1, List.append_assoc]; rfl
         · dsimp only; omega
         · rw [hN']; rfl)
      | trace_state
  · cases e
end Go.Eng
