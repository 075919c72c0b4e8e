/- Contracts of functions of the given program, told by plain Lean functions. No condition. -/
import Derived.Test.YtgljcfbcdniffaaDoorProg
import Derived.Test.YtgljcfbcdniffaaDoorESum
import Derived.KernelRfl
import Derived.Test.YtgljcfbcdniffaaDoorPC
namespace Go.Eng
open Go.Proofs
set_option linter.unusedVariables false
set_option linter.unusedSimpArgs false
set_option maxRecDepth 100000
set_option maxHeartbeats 1000000
def ir_l19_PortBack : IR :=
 (.seq
  (.keep [0, 1, 2]
  (.reg ((⟨(some 6), .mov (.c (.kb false)), none⟩ : IOper) ::
    [])))
  (.seq
   (.seq
    (.keep [0, 1, 2]
    (.reg ((⟨(some 20), .mov (.t 0), none⟩ : IOper) ::
      (⟨(some 21), .call false (.f 27) [(.t 20)], none⟩ : IOper) ::
      (⟨(some 22), .un .not (.t 21), none⟩ : IOper) ::
      (⟨(some 23), .mov (.t 22), none⟩ : IOper) ::
      (⟨(some 24), .mov (.t 1), (some (23, false))⟩ : IOper) ::
      (⟨(some 25), .call false (.f 27) [(.t 24)], (some (23, false))⟩ : IOper) ::
      (⟨(some 26), .un .not (.t 25), (some (23, false))⟩ : IOper) ::
      (⟨(some 27), .pick (.t 23) (.c (.kb true)) (.t 26), none⟩ : IOper) ::
      (⟨(some 28), .mov (.t 27), none⟩ : IOper) ::
      (⟨(some 29), .mov (.t 2), (some (28, false))⟩ : IOper) ::
      (⟨(some 30), .len (.t 29), (some (28, false))⟩ : IOper) ::
      (⟨(some 31), .bin .gtr (.t 30) (.c (.int .i64 3000)), (some (28, false))⟩ : IOper) ::
      (⟨(some 32), .pick (.t 28) (.c (.kb true)) (.t 31), none⟩ : IOper) ::
      [])))
    (.cond (.t 32)
     (.seq
      (.keep []
      (.reg ((⟨(some 33), .call false (.f 16) [], none⟩ : IOper) ::
        (⟨(some 6), .mov (.t 33), none⟩ : IOper) ::
        [])))
      .ret)
     .skip))
   (.seq
    (.seq
     (.keep [0, 1, 2]
     (.reg ((⟨(some 35), .mov (.t 0), none⟩ : IOper) ::
       (⟨(some 36), .call false (.f 28) [(.t 35)], none⟩ : IOper) ::
       (⟨(some 34), .mov (.t 36), none⟩ : IOper) ::
       (⟨(some 37), .extract (.t 34) 0, none⟩ : IOper) ::
       (⟨(some 38), .extract (.t 34) 1, none⟩ : IOper) ::
       (⟨(some 7), .mov (.t 37), none⟩ : IOper) ::
       (⟨(some 8), .mov (.t 38), none⟩ : IOper) ::
       [])))
     (.seq
      (.keep [0, 1, 2, 7, 8]
      (.reg ((⟨(some 39), .mov (.t 8), none⟩ : IOper) ::
        (⟨(some 40), .bin .eql (.t 39) (.c (.int .i64 0)), none⟩ : IOper) ::
        [])))
      (.cond (.t 40)
       (.seq
        (.keep [0, 1, 2, 7]
        (.reg ((⟨(some 42), .mov (.t 7), none⟩ : IOper) ::
          (⟨(some 43), .call false (.f 17) [(.t 42)], none⟩ : IOper) ::
          (⟨(some 41), .mov (.t 43), none⟩ : IOper) ::
          (⟨(some 44), .extract (.t 41) 0, none⟩ : IOper) ::
          (⟨(some 45), .extract (.t 41) 1, none⟩ : IOper) ::
          (⟨(some 9), .mov (.t 44), none⟩ : IOper) ::
          (⟨(some 10), .mov (.t 45), none⟩ : IOper) ::
          [])))
        (.seq
         (.seq
          (.keep [0, 1, 2, 7, 9, 10]
          (.reg ((⟨(some 46), .mov (.t 10), none⟩ : IOper) ::
            (⟨(some 47), .bin .neq (.t 46) (.c (.int .i64 0)), none⟩ : IOper) ::
            (⟨(some 48), .mov (.t 47), none⟩ : IOper) ::
            (⟨(some 49), .mov (.t 9), (some (48, false))⟩ : IOper) ::
            (⟨(some 50), .mov (.t 0), (some (48, false))⟩ : IOper) ::
            (⟨(some 51), .call false (.f 19) [(.t 49), (.t 50)], (some (48, false))⟩ : IOper) ::
            (⟨(some 52), .un .not (.t 51), (some (48, false))⟩ : IOper) ::
            (⟨(some 53), .pick (.t 48) (.c (.kb true)) (.t 52), none⟩ : IOper) ::
            [])))
          (.cond (.t 53)
           (.seq
            (.keep []
            (.reg ((⟨(some 6), .mov (.c (.kb false)), none⟩ : IOper) ::
              [])))
            .ret)
           .skip))
         (.seq
          (.keep [0, 1, 2, 7]
          (.reg ((⟨(some 54), .mov (.t 7), none⟩ : IOper) ::
            (⟨(some 55), .len (.t 54), none⟩ : IOper) ::
            (⟨(some 56), .bin .gtr (.t 55) (.c (.int .i64 0)), none⟩ : IOper) ::
            [])))
          (.cond (.t 56)
           (.seq
            (.keep [0, 1, 2, 7]
            (.reg ((⟨(some 58), .mov (.t 7), none⟩ : IOper) ::
              (⟨(some 59), .mov (.t 7), none⟩ : IOper) ::
              (⟨(some 60), .len (.t 59), none⟩ : IOper) ::
              (⟨(some 61), .bin .sub (.t 60) (.c (.int .i64 1)), none⟩ : IOper) ::
              (⟨(some 62), .slice 1 (.t 58) none (some (.t 61)) none, none⟩ : IOper) ::
              (⟨(some 63), .call false (.f 17) [(.t 62)], none⟩ : IOper) ::
              (⟨(some 57), .mov (.t 63), none⟩ : IOper) ::
              (⟨(some 64), .extract (.t 57) 0, none⟩ : IOper) ::
              (⟨(some 65), .extract (.t 57) 1, none⟩ : IOper) ::
              (⟨(some 11), .mov (.t 64), none⟩ : IOper) ::
              (⟨(some 12), .mov (.t 65), none⟩ : IOper) ::
              [])))
            (.seq
             (.keep [0, 1, 2, 12]
             (.reg ((⟨(some 66), .mov (.t 12), none⟩ : IOper) ::
               (⟨(some 67), .bin .eql (.t 66) (.c (.int .i64 0)), none⟩ : IOper) ::
               [])))
             (.cond (.t 67)
              (.seq
               (.reg ((⟨(some 6), .mov (.c (.kb false)), none⟩ : IOper) ::
                 []))
               .ret)
              .skip)))
           .skip))))
       .skip)))
    (.seq
     (.reg ((⟨(some 68), .mov (.t 0), none⟩ : IOper) ::
       (⟨(some 69), .call false (.f 36) [(.t 68)], none⟩ : IOper) ::
       (⟨(some 13), .mov (.t 69), none⟩ : IOper) ::
       []))
     (.seq
      (.seq
       (.keep [0, 1, 2, 13]
       (.reg ((⟨(some 70), .mov (.t 13), none⟩ : IOper) ::
         (⟨(some 71), .mov (.t 0), none⟩ : IOper) ::
         (⟨(some 72), .call false (.f 19) [(.t 70), (.t 71)], none⟩ : IOper) ::
         (⟨(some 73), .un .not (.t 72), none⟩ : IOper) ::
         (⟨(some 74), .mov (.t 73), none⟩ : IOper) ::
         (⟨(some 75), .mov (.t 13), (some (74, false))⟩ : IOper) ::
         (⟨(some 76), .mov (.t 0), (some (74, false))⟩ : IOper) ::
         (⟨(some 77), .call false (.f 37) [(.t 75), (.t 76)], (some (74, false))⟩ : IOper) ::
         (⟨(some 78), .un .not (.t 77), (some (74, false))⟩ : IOper) ::
         (⟨(some 79), .pick (.t 74) (.c (.kb true)) (.t 78), none⟩ : IOper) ::
         (⟨(some 80), .mov (.t 79), none⟩ : IOper) ::
         (⟨(some 81), .mov (.t 0), (some (80, false))⟩ : IOper) ::
         (⟨(some 82), .mov (.t 1), (some (80, false))⟩ : IOper) ::
         (⟨(some 83), .call false (.f 37) [(.t 81), (.t 82)], (some (80, false))⟩ : IOper) ::
         (⟨(some 84), .mov (.t 0), (some (80, false))⟩ : IOper) ::
         (⟨(some 85), .mov (.t 1), (some (80, false))⟩ : IOper) ::
         (⟨(some 86), .call false (.f 19) [(.t 84), (.t 85)], (some (80, false))⟩ : IOper) ::
         (⟨(some 87), .eqb true (.t 83) (.t 86), (some (80, false))⟩ : IOper) ::
         (⟨(some 88), .pick (.t 80) (.c (.kb true)) (.t 87), none⟩ : IOper) ::
         [])))
       (.cond (.t 88)
        (.seq
         (.keep []
         (.reg ((⟨(some 6), .mov (.c (.kb false)), none⟩ : IOper) ::
           [])))
         .ret)
        .skip))
      (.seq
       (.keep [0, 2, 13]
       (.reg ((⟨(some 89), .mov (.t 0), none⟩ : IOper) ::
         (⟨(some 90), .call false (.f 36) [(.t 89)], none⟩ : IOper) ::
         (⟨(some 14), .mov (.t 90), none⟩ : IOper) ::
         [])))
       (.seq
        (.seq
         (.reg ((⟨(some 15), .mov (.c (.int .i64 0)), none⟩ : IOper) ::
           []))
         (.block 0
          (.loop
           (.seq
            (.seq
             (.keep [0, 2, 13, 14, 15]
             (.reg ((⟨(some 91), .mov (.t 15), none⟩ : IOper) ::
               (⟨(some 92), .mov (.t 13), none⟩ : IOper) ::
               (⟨(some 93), .len (.t 92), none⟩ : IOper) ::
               (⟨(some 94), .bin .lss (.t 91) (.t 93), none⟩ : IOper) ::
               [])))
             (.cond (.t 94)
              .skip
              (.exit 0)))
            (.seq
             (.block 1
              (.keep [0, 2, 13, 14, 15]
              (.reg ((⟨(some 97), .mov (.t 13), none⟩ : IOper) ::
                (⟨(some 98), .mov (.t 15), none⟩ : IOper) ::
                (⟨(some 99), .mov (.t 13), none⟩ : IOper) ::
                (⟨(some 100), .mov (.t 15), none⟩ : IOper) ::
                (⟨(some 101), .indexSl 11 (.t 99) (.t 100), none⟩ : IOper) ::
                (⟨(some 102), .fieldAddr 0 (.t 101), none⟩ : IOper) ::
                (⟨(some 103), .load none (.t 102), none⟩ : IOper) ::
                (⟨(some 104), .bin .add (.t 103) (.c (.int .u64 1)), none⟩ : IOper) ::
                (⟨(some 105), .indexSl 11 (.t 97) (.t 98), none⟩ : IOper) ::
                (⟨(some 106), .fieldAddr 0 (.t 105), none⟩ : IOper) ::
                (⟨none, .store 1 (.t 106) (.t 104), none⟩ : IOper) ::
                []))))
             (.keep [0, 2, 13, 14, 15]
             (.reg ((⟨(some 95), .mov (.t 15), none⟩ : IOper) ::
               (⟨(some 96), .bin .add (.t 95) (.c (.int .i64 1)), none⟩ : IOper) ::
               (⟨(some 15), .mov (.t 96), none⟩ : IOper) ::
               []))))))))
        (.seq
         (.seq
          (.keep [0, 2, 14]
          (.reg ((⟨(some 107), .mov (.t 14), none⟩ : IOper) ::
            (⟨(some 108), .mov (.t 0), none⟩ : IOper) ::
            (⟨(some 109), .call false (.f 19) [(.t 107), (.t 108)], none⟩ : IOper) ::
            (⟨(some 110), .un .not (.t 109), none⟩ : IOper) ::
            [])))
          (.cond (.t 110)
           (.seq
            (.reg ((⟨(some 6), .mov (.c (.kb false)), none⟩ : IOper) ::
              []))
            .ret)
           .skip))
         (.seq
          (.keep [2]
          (.reg ((⟨(some 112), .mov (.t 2), none⟩ : IOper) ::
            (⟨(some 113), .call false (.f 17) [(.t 112)], none⟩ : IOper) ::
            (⟨(some 111), .mov (.t 113), none⟩ : IOper) ::
            (⟨(some 114), .extract (.t 111) 0, none⟩ : IOper) ::
            (⟨(some 115), .extract (.t 111) 1, none⟩ : IOper) ::
            (⟨(some 16), .mov (.t 114), none⟩ : IOper) ::
            (⟨(some 17), .mov (.t 115), none⟩ : IOper) ::
            [])))
          (.seq
           (.seq
            (.keep [2, 16, 17]
            (.reg ((⟨(some 116), .mov (.t 17), none⟩ : IOper) ::
              (⟨(some 117), .bin .neq (.t 116) (.c (.int .i64 0)), none⟩ : IOper) ::
              [])))
            (.cond (.t 117)
             (.seq
              (.keep [16]
              (.reg ((⟨(some 118), .mov (.t 16), none⟩ : IOper) ::
                (⟨(some 119), .len (.t 118), none⟩ : IOper) ::
                (⟨(some 120), .bin .eql (.t 119) (.c (.int .i64 0)), none⟩ : IOper) ::
                (⟨(some 121), .mov (.t 120), none⟩ : IOper) ::
                (⟨(some 122), .call false (.f 16) [], (some (121, true))⟩ : IOper) ::
                (⟨(some 123), .pick (.t 121) (.t 122) (.c (.kb false)), none⟩ : IOper) ::
                (⟨(some 6), .mov (.t 123), none⟩ : IOper) ::
                [])))
              .ret)
             .skip))
           (.seq
            (.keep [2, 16]
            (.reg ((⟨(some 125), .mov (.t 16), none⟩ : IOper) ::
              (⟨(some 126), .call false (.f 28) [(.t 125)], none⟩ : IOper) ::
              (⟨(some 124), .mov (.t 126), none⟩ : IOper) ::
              (⟨(some 127), .extract (.t 124) 0, none⟩ : IOper) ::
              (⟨(some 128), .extract (.t 124) 1, none⟩ : IOper) ::
              (⟨(some 18), .mov (.t 127), none⟩ : IOper) ::
              (⟨(some 19), .mov (.t 128), none⟩ : IOper) ::
              [])))
            (.seq
             (.keep [2, 16, 18, 19]
             (.reg ((⟨(some 129), .mov (.t 19), none⟩ : IOper) ::
               (⟨(some 130), .bin .eql (.t 129) (.c (.int .i64 0)), none⟩ : IOper) ::
               (⟨(some 131), .mov (.t 130), none⟩ : IOper) ::
               (⟨(some 132), .mov (.t 16), (some (131, true))⟩ : IOper) ::
               (⟨(some 133), .call false (.f 34) [(.t 132)], (some (131, true))⟩ : IOper) ::
               (⟨(some 134), .pick (.t 131) (.t 133) (.c (.kb false)), none⟩ : IOper) ::
               (⟨(some 135), .mov (.t 134), none⟩ : IOper) ::
               (⟨(some 136), .mov (.t 18), (some (135, true))⟩ : IOper) ::
               (⟨(some 137), .mov (.t 2), (some (135, true))⟩ : IOper) ::
               (⟨(some 138), .call false (.f 35) [(.t 136), (.t 137)], (some (135, true))⟩ : IOper) ::
               (⟨(some 139), .pick (.t 135) (.t 138) (.c (.kb false)), none⟩ : IOper) ::
               (⟨(some 140), .mov (.t 139), none⟩ : IOper) ::
               (⟨(some 141), .call false (.f 16) [], (some (140, true))⟩ : IOper) ::
               (⟨(some 142), .pick (.t 140) (.t 141) (.c (.kb false)), none⟩ : IOper) ::
               (⟨(some 6), .mov (.t 142), none⟩ : IOper) ::
               [])))
             .ret))))))))))))
def rd_l19_PortBack : List RD := [.tmp 6 true none]
theorem ok_l19_PortBack : fnOk Tryd.prog Tryd.f7 ir_l19_PortBack rd_l19_PortBack = true := by kernel_rfl
def S_l19_PortBack : List AV → List Obj → Option (Prop × AV)
  | [.imm (.cons (.int .u64) (.cons (.int .u64) (.cons .str (.cons (.cons (.int .u64) (.cons (.int .u64) (.cons (.int .u64) (.cons (.int .u64) (.cons (.int .u64) (.cons (.int .u64) (.cons (.int .u64) (.cons (.int .u64) .nil)))))))) .nil)))) l, .imm (.cons (.int .u64) (.cons (.int .u64) (.cons .str (.cons (.cons (.int .u64) (.cons (.int .u64) (.cons (.int .u64) (.cons (.int .u64) (.cons (.int .u64) (.cons (.int .u64) (.cons (.int .u64) (.cons (.int .u64) .nil)))))))) .nil)))) m, .imm (.int .u8) b], [] => some ((True, .bool true))
  | _, _ => none
theorem snd_l19_PortBack : SoundS Tryd.prog 7 (RoF S_l19_PortBack).sum := by
  refine ro_fn Tryd.func7 ok_l19_PortBack (env_cons (s := RoF S_r19_Few) snd_r19_Few (env_cons (s := RoF S_l19_sure) snd_l19_sure (env_cons (s := RoF S_port_Encode) snd_port_Encode (env_cons (s := RoF S_port_Decode) snd_port_Decode (env_cons (s := RoF S_r19_Same) snd_r19_Same (env_cons (s := RwF S_port_Copy) snd_port_Copy (env_cons (s := RoF S_port_Same) snd_port_Same (env_cons (s := RoF S_port_Right) snd_port_Right (env_cons (s := RoF S_r01_Bytes) snd_r01_Bytes (env_nil _)))))))))) fun args objs p v e => ?_
  unfold S_l19_PortBack at e
  split at e
  · rename_i l m b
    cases e
    refine ⟨rfl, fun hw ho hp => ?_⟩
    change List Int at b
    change List PV at l
    change List PV at m
    have hwf := pwf_of (hw (.imm (.cons (.int .u64) (.cons (.int .u64) (.cons .str (.cons (.cons (.int .u64) (.cons (.int .u64) (.cons (.int .u64) (.cons (.int .u64) (.cons (.int .u64) (.cons (.int .u64) (.cons (.int .u64) (.cons (.int .u64) .nil)))))))) .nil)))) l) (by simp))
    have hbb : ∀ x ∈ (b : List Int), (0 : Int) ≤ x ∧ x ≤ 255 := fun x hx => (hw (.imm (.int .u8) b) (by simp)).1 x hx
    clear hw ho
    by_cases hc : fewP l = true ∧ fewP m = true ∧ b.length ≤ 3000
    · obtain ⟨hf, hf2, hb⟩ := hc
      have hl : l.length ≤ 40 := by unfold fewP at hf; simp only [Bool.and_eq_true, decide_eq_true_eq] at hf; exact hf.1
      have hel : (encL l).length ≤ 65472 := (enc_eq hwf (by omega)).2.2
      have g1 : encE l = 0 → dE (encL l) = 0 ∧ dL (encL l) = l := fun h => by
        obtain ⟨h1, h2⟩ := enc_some hwf (by omega) h
        obtain ⟨x, hx, hd⟩ := dG_of l [] _ hwf h1
        rw [List.nil_append] at hx; subst hx
        have : dE (encL l) = 0 := by unfold dE; rw [hd]
        exact ⟨this, by unfold dL; rw [show (dG (encL l)).2.1 = 0 from this, if_pos rfl, hd]⟩
      have g2 : encE l = 0 → (0 : Int) < (encL l).length → ¬ dE ((encL l).take (((encL l).length : Int) - 1).toNat) = 0 := fun h h1 h2 => by
        obtain ⟨h3, h4⟩ := enc_some hwf (by omega) h
        have h5 := (dG_len _ h2).2
        rw [List.length_take] at h5; omega
      have g3 : dE b = 0 → encE (dL b) = 0 ∧ encL (dL b) = b := fun h => by
        have h1 : dL b = (dG b).1 := if_pos h
        have h2 := (dG_len b h).2
        rw [h1]
        exact enc_of (dG_wf b hbb) (by omega) (pbA_dG b hbb h)
      have g4 : ¬ dE b = 0 → dL b = [] := fun h => if_neg h
      have g5 : (encL l).length ≤ 2560 ∨ ¬ encE l = 0 := by
        by_cases h : encE l = 0
        · left; have := (enc_some hwf (by omega) h).2; omega
        · exact .inr h
      repeat' (intro t ht; first | (cases t <;> first | (cases ht; done) | ((try simp only [Bool.not_eq_eq_eq_not, Bool.not_true, Bool.not_false, Bool.and_eq_true, Bool.and_eq_false_iff, decide_eq_true_eq, decide_eq_false_iff_not] at ht); (try simp only [Int.toNat_natCast, dflt_int] at ht); (try (exfalso; first | contradiction | omega)))) | (refine ht ?_ ?_ <;> clear ht) | (refine ht.1 ?_ ?_ <;> clear ht) | (refine ht ?_; clear ht))
      all_goals first
        | exact True.intro
        | omega
        | exact absurd (g1 (by assumption)).1 (by assumption)
        | exact absurd (g1 (by assumption)).2 (by assumption)
        | exact absurd (by assumption) (g2 (by assumption) (by assumption))
        | (exfalso; have h : (decide (l = m) == decide (l = m)) = false := by assumption
           rw [beq_self_eq_true] at h; cases h)
        | contradiction
        | ((try simp only [Int.toNat_natCast, dflt_int, decide_eq_true_eq, decide_eq_false_iff_not, Bool.not_eq_eq_eq_not, Bool.not_true, Bool.not_false, Bool.and_eq_true, Bool.and_eq_false_iff, min_i64, max_i64, min_u64, max_u64, min_u32, max_u32, min_u16, max_u16, min_u8, max_u8] at *); omega)
        | (rw [List.length_take]; omega)
        | exact ⟨rfl, rfl⟩
        | (intro r h1 h2; clear h1; refine h2 ⟨[0, 2, 13, 14, 15], Nat × List PV, (fun a => a.1 ≤ l.length ∧ a.2.length = l.length), fun a => [.imm (.cons (.int .u64) (.cons (.int .u64) (.cons .str (.cons (.cons (.int .u64) (.cons (.int .u64) (.cons (.int .u64) (.cons (.int .u64) (.cons (.int .u64) (.cons (.int .u64) (.cons (.int .u64) (.cons (.int .u64) .nil)))))))) .nil)))) l, .imm (.int .u8) b, .own 0, .own 1, .int .i64 a.1], fun a => [.row false (.cons (.int .u64) (.cons (.int .u64) (.cons .str (.cons (.cons (.int .u64) (.cons (.int .u64) (.cons (.int .u64) (.cons (.int .u64) (.cons (.int .u64) (.cons (.int .u64) (.cons (.int .u64) (.cons (.int .u64) .nil)))))))) .nil)))) a.2, .row false (.cons (.int .u64) (.cons (.int .u64) (.cons .str (.cons (.cons (.int .u64) (.cons (.int .u64) (.cons (.int .u64) (.cons (.int .u64) (.cons (.int .u64) (.cons (.int .u64) (.cons (.int .u64) (.cons (.int .u64) .nil)))))))) .nil)))) l], fun a => l.length - a.1, ⟨(0, l), ⟨Nat.zero_le _, rfl⟩, rfl, rfl⟩, ?_⟩; clear h2)
        | trace_state
      all_goals rintro ⟨i, x⟩ ⟨hi, hx⟩
      all_goals dsimp only at hi hx
      all_goals repeat' (intro t ht; first | (cases t <;> first | (cases ht; done) | ((try simp only [Bool.not_eq_eq_eq_not, Bool.not_true, Bool.not_false, Bool.and_eq_true, Bool.and_eq_false_iff, decide_eq_true_eq, decide_eq_false_iff_not] at ht); (try simp only [Int.toNat_natCast, dflt_int] at ht); (try (exfalso; first | contradiction | omega)))) | (refine ht ?_ ?_ <;> clear ht) | (refine ht.1 (by simp only [min_i64, max_i64, min_u64, max_u64, min_u32, max_u32, min_u16, max_u16, min_u8, max_u8]; omega) ?_; clear ht) | (refine ht.2 ?_; clear ht) | (refine ht ?_; clear ht))
      all_goals (try generalize (Ty.dflt (.cons (.int .u64) (.cons (.int .u64) (.cons .str (.cons (.cons (.int .u64) (.cons (.int .u64) (.cons (.int .u64) (.cons (.int .u64) (.cons (.int .u64) (.cons (.int .u64) (.cons (.int .u64) (.cons (.int .u64) .nil)))))))) .nil))))) = pd at *)
      all_goals (try dsimp only)
      all_goals first
        | exact True.intro
        | exact ⟨rfl, rfl⟩
        | omega
        | exact absurd (g3 (by assumption)).1 (by assumption)
        | exact absurd (g3 (by assumption)).2 (by assumption)
        | (exfalso
           have h := g4 (by assumption)
           have h2 : ¬ ((dL b).length : Int) = 0 := by assumption
           rw [h] at h2; exact h2 rfl)
        | (refine ⟨(i + 1, x.set i _), ⟨?_, ?_⟩, ?_, rfl, rfl⟩
           · dsimp only; omega
           · dsimp only; rw [List.length_set]; exact hx
           · dsimp only; omega)
        | trace_state
    · repeat' (intro t ht; first | (cases t <;> first | (cases ht; done) | ((try simp only [Bool.not_eq_eq_eq_not, Bool.not_true, Bool.not_false, Bool.and_eq_true, Bool.and_eq_false_iff, decide_eq_true_eq, decide_eq_false_iff_not] at ht); (try simp only [Int.toNat_natCast, dflt_int] at ht); (try (exfalso; first | contradiction | omega)))) | (refine ht ?_ ?_ <;> clear ht) | (refine ht.1 ?_ ?_ <;> clear ht) | (refine ht ?_; clear ht))
      all_goals first
        | exact True.intro
        | exact ⟨rfl, rfl⟩
        | (exfalso; exact hc ⟨by assumption, by assumption, by omega⟩)
        | trace_state
  · cases e
end Go.Eng
