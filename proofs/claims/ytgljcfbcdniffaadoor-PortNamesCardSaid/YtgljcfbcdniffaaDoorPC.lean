/- Contracts of functions of the given program, told by plain Lean functions. No condition. -/
import Derived.Test.YtgljcfbcdniffaaDoorProg
import Derived.Test.YtgljcfbcdniffaaDoorESum
import Derived.KernelRfl
import Derived.Test.YtgljcfbcdniffaaDoorPB
namespace Go.Eng
open Go.Proofs
set_option linter.unusedVariables false
set_option linter.unusedSimpArgs false
set_option maxRecDepth 100000
set_option maxHeartbeats 1000000
def ir_l19_PortNames : IR :=
 (.seq
  (.keep [0]
  (.reg ((⟨(some 2), .mov (.c (.kb false)), none⟩ : IOper) ::
    [])))
  (.seq
   (.seq
    (.reg ((⟨(some 3), .mov (.t 0), none⟩ : IOper) ::
      (⟨(some 4), .slen (.t 3), none⟩ : IOper) ::
      (⟨(some 5), .bin .gtr (.t 4) (.c (.int .i64 100)), none⟩ : IOper) ::
      []))
    (.cond (.t 5)
     (.seq
      (.reg ((⟨(some 6), .call false (.f 16) [], none⟩ : IOper) ::
        (⟨(some 2), .mov (.t 6), none⟩ : IOper) ::
        []))
      .ret)
     .skip))
   (.seq
    (.keep [0]
    (.reg ((⟨(some 7), .mov (.t 0), none⟩ : IOper) ::
      (⟨(some 8), .call false (.f 25) [(.t 7)], none⟩ : IOper) ::
      (⟨(some 9), .mov (.t 0), none⟩ : IOper) ::
      (⟨(some 10), .call false (.f 26) [(.t 9)], none⟩ : IOper) ::
      (⟨(some 11), .eqb false (.t 8) (.t 10), none⟩ : IOper) ::
      (⟨(some 12), .mov (.t 11), none⟩ : IOper) ::
      (⟨(some 13), .call false (.f 16) [], (some (12, true))⟩ : IOper) ::
      (⟨(some 14), .pick (.t 12) (.t 13) (.c (.kb false)), none⟩ : IOper) ::
      (⟨(some 2), .mov (.t 14), none⟩ : IOper) ::
      [])))
    .ret)))
def rd_l19_PortNames : List RD := [.tmp 2 true none]
theorem ok_l19_PortNames : fnOk Tryd.prog Tryd.f5 ir_l19_PortNames rd_l19_PortNames = true := by kernel_rfl
def S_l19_PortNames : List AV → List Obj → Option (Prop × AV)
  | [.str s], [] => some ((True, .bool true))
  | _, _ => none
theorem snd_l19_PortNames : SoundS Tryd.prog 5 (RoF S_l19_PortNames).sum := by
  refine ro_fn Tryd.func5 ok_l19_PortNames (env_cons (s := RoF S_l19_sure) snd_l19_sure (env_cons (s := RoF S_port_Name) snd_port_Name (env_cons (s := RoF S_r19_Name) snd_r19_Name (env_nil _)))) fun args objs p v e => ?_
  unfold S_l19_PortNames at e
  split at e
  · rename_i s
    cases e
    refine ⟨rfl, fun hw ho hp => ?_⟩
    repeat' (intro t ht; first | (cases t <;> first | (cases ht; done) | ((try simp only [Bool.not_eq_eq_eq_not, Bool.not_true, Bool.not_false, Bool.and_eq_true, Bool.and_eq_false_iff, decide_eq_true_eq, decide_eq_false_iff_not] at ht); (try simp only [Int.toNat_natCast, dflt_int] at ht))) | (refine ht ?_ ?_ <;> clear ht) | (refine ht.1 ?_ ?_ <;> clear ht) | (refine ht ?_; clear ht))
    all_goals first
      | exact True.intro
      | exact ⟨rfl, rfl⟩
      | (simp at *; done)
      | trace_state
  · cases e
theorem doneE_nil (e : Int) : doneE [] e = e := by unfold doneE; split; · rename_i h; rw [h]; rfl
                                                   · rfl
theorem doneL_nil (x : List Int) (e : Int) : doneL x [] e = if e = 0 then x else [] := by
  unfold doneL doneB; by_cases h : e = 0
  · rw [if_pos h, decide_eq_true h]; rfl
  · rw [if_neg h, decide_eq_false h]; rfl
theorem failE_0 (x : Int) : failE 0 x = x := rfl
theorem put_law {l : List PV} {more : List Int} (hm : more.length ≤ 100) (hl : (encL l).length ≤ 65472) : putPE more 200000 0 l = encE l ∧ (encE l = 0 → putP more 200000 0 l = more ++ encL l) := by
  unfold putPE putP
  rw [failE_0]
  rcases encE_of (l := l) with h | h
  · rw [h]
    obtain ⟨b1, b2⟩ := buf_ok (x := encL l) (l := more) (room := 200000) (by omega)
    exact ⟨b2, fun _ => b1⟩
  · rw [h]; exact ⟨buf_ne (by decide), fun h => by cases h⟩
def ir_l19_PortEncodes : IR :=
 (.seq
  (.keep [0, 1]
  (.reg ((⟨(some 4), .mov (.c (.kb false)), none⟩ : IOper) ::
    [])))
  (.seq
   (.seq
    (.keep [0, 1]
    (.reg ((⟨(some 12), .mov (.t 0), none⟩ : IOper) ::
      (⟨(some 13), .call false (.f 27) [(.t 12)], none⟩ : IOper) ::
      (⟨(some 14), .un .not (.t 13), none⟩ : IOper) ::
      (⟨(some 15), .mov (.t 14), none⟩ : IOper) ::
      (⟨(some 16), .mov (.t 1), (some (15, false))⟩ : IOper) ::
      (⟨(some 17), .len (.t 16), (some (15, false))⟩ : IOper) ::
      (⟨(some 18), .bin .gtr (.t 17) (.c (.int .i64 100)), (some (15, false))⟩ : IOper) ::
      (⟨(some 19), .pick (.t 15) (.c (.kb true)) (.t 18), none⟩ : IOper) ::
      [])))
    (.cond (.t 19)
     (.seq
      (.keep []
      (.reg ((⟨(some 20), .call false (.f 16) [], none⟩ : IOper) ::
        (⟨(some 4), .mov (.t 20), none⟩ : IOper) ::
        [])))
      .ret)
     .skip))
   (.seq
    (.keep [0, 1]
    (.reg ((⟨(some 22), .mov (.t 0), none⟩ : IOper) ::
      (⟨(some 23), .call false (.f 28) [(.t 22)], none⟩ : IOper) ::
      (⟨(some 21), .mov (.t 23), none⟩ : IOper) ::
      (⟨(some 24), .extract (.t 21) 0, none⟩ : IOper) ::
      (⟨(some 25), .extract (.t 21) 1, none⟩ : IOper) ::
      (⟨(some 5), .mov (.t 24), none⟩ : IOper) ::
      (⟨(some 6), .mov (.t 25), none⟩ : IOper) ::
      [])))
    (.seq
     (.keep [0, 1, 5, 6]
     (.reg ((⟨(some 27), .mov (.t 0), none⟩ : IOper) ::
       (⟨(some 28), .call false (.f 29) [(.t 27)], none⟩ : IOper) ::
       (⟨(some 26), .mov (.t 28), none⟩ : IOper) ::
       (⟨(some 29), .extract (.t 26) 0, none⟩ : IOper) ::
       (⟨(some 30), .extract (.t 26) 1, none⟩ : IOper) ::
       (⟨(some 7), .mov (.t 29), none⟩ : IOper) ::
       (⟨(some 8), .mov (.t 30), none⟩ : IOper) ::
       [])))
     (.seq
      (.keep [0, 1, 5, 6, 7, 8]
      (.reg ((⟨(some 31), .call false (.f 30) [(.c (.int .i64 200000))], none⟩ : IOper) ::
        (⟨(some 9), .mov (.t 31), none⟩ : IOper) ::
        [])))
      (.seq
       (.reg ((⟨(some 32), .mov (.t 9), none⟩ : IOper) ::
         (⟨(some 33), .mov (.t 1), none⟩ : IOper) ::
         (⟨(some 34), .call false (.f 31) [(.t 32), (.t 33)], none⟩ : IOper) ::
         []))
       (.seq
        (.reg ((⟨(some 35), .mov (.t 9), none⟩ : IOper) ::
          (⟨(some 36), .mov (.t 0), none⟩ : IOper) ::
          (⟨(some 37), .call false (.f 32) [(.t 35), (.t 36)], none⟩ : IOper) ::
          []))
        (.seq
         (.keep [0, 1, 5, 6, 7, 8, 9]
         (.reg ((⟨(some 39), .mov (.t 9), none⟩ : IOper) ::
           (⟨(some 40), .call false (.f 33) [(.t 39)], none⟩ : IOper) ::
           (⟨(some 38), .mov (.t 40), none⟩ : IOper) ::
           (⟨(some 41), .extract (.t 38) 0, none⟩ : IOper) ::
           (⟨(some 42), .extract (.t 38) 1, none⟩ : IOper) ::
           (⟨(some 10), .mov (.t 41), none⟩ : IOper) ::
           (⟨(some 11), .mov (.t 42), none⟩ : IOper) ::
           [])))
         (.seq
          (.seq
           (.keep [0, 1, 5, 6, 7, 8, 10, 11]
           (.reg ((⟨(some 43), .mov (.t 0), none⟩ : IOper) ::
             (⟨(some 44), .call false (.f 34) [(.t 43)], none⟩ : IOper) ::
             (⟨(some 45), .mov (.t 8), none⟩ : IOper) ::
             (⟨(some 46), .bin .eql (.t 45) (.c (.int .i64 0)), none⟩ : IOper) ::
             (⟨(some 47), .eqb true (.t 44) (.t 46), none⟩ : IOper) ::
             (⟨(some 48), .mov (.t 47), none⟩ : IOper) ::
             (⟨(some 49), .mov (.t 5), (some (48, false))⟩ : IOper) ::
             (⟨(some 50), .mov (.t 7), (some (48, false))⟩ : IOper) ::
             (⟨(some 51), .call false (.f 35) [(.t 49), (.t 50)], (some (48, false))⟩ : IOper) ::
             (⟨(some 52), .un .not (.t 51), (some (48, false))⟩ : IOper) ::
             (⟨(some 53), .pick (.t 48) (.c (.kb true)) (.t 52), none⟩ : IOper) ::
             (⟨(some 54), .mov (.t 53), none⟩ : IOper) ::
             (⟨(some 55), .mov (.t 6), (some (54, false))⟩ : IOper) ::
             (⟨(some 56), .mov (.t 8), (some (54, false))⟩ : IOper) ::
             (⟨(some 57), .bin .neq (.t 55) (.t 56), (some (54, false))⟩ : IOper) ::
             (⟨(some 58), .pick (.t 54) (.c (.kb true)) (.t 57), none⟩ : IOper) ::
             (⟨(some 59), .mov (.t 58), none⟩ : IOper) ::
             (⟨(some 60), .mov (.t 11), (some (59, false))⟩ : IOper) ::
             (⟨(some 61), .mov (.t 8), (some (59, false))⟩ : IOper) ::
             (⟨(some 62), .bin .neq (.t 60) (.t 61), (some (59, false))⟩ : IOper) ::
             (⟨(some 63), .pick (.t 59) (.c (.kb true)) (.t 62), none⟩ : IOper) ::
             [])))
           (.cond (.t 63)
            (.seq
             (.keep []
             (.reg ((⟨(some 4), .mov (.c (.kb false)), none⟩ : IOper) ::
               [])))
             .ret)
            .skip))
          (.seq
           (.keep [1, 7, 8, 10]
           (.reg ((⟨(some 64), .mov (.t 8), none⟩ : IOper) ::
             (⟨(some 65), .bin .neq (.t 64) (.c (.int .i64 0)), none⟩ : IOper) ::
             (⟨(some 66), .mov (.t 65), none⟩ : IOper) ::
             (⟨(some 67), .mov (.t 10), (some (66, false))⟩ : IOper) ::
             (⟨(some 68), .slice0 (.int .u8), (some (66, false))⟩ : IOper) ::
             (⟨(some 69), .mov (.t 1), (some (66, false))⟩ : IOper) ::
             (⟨(some 70), .append (.int .u8) 1 (.t 68) (.t 69), (some (66, false))⟩ : IOper) ::
             (⟨(some 71), .mov (.t 7), (some (66, false))⟩ : IOper) ::
             (⟨(some 72), .append (.int .u8) 1 (.t 70) (.t 71), (some (66, false))⟩ : IOper) ::
             (⟨(some 73), .call false (.f 35) [(.t 67), (.t 72)], (some (66, false))⟩ : IOper) ::
             (⟨(some 74), .pick (.t 66) (.c (.kb true)) (.t 73), none⟩ : IOper) ::
             (⟨(some 75), .mov (.t 74), none⟩ : IOper) ::
             (⟨(some 76), .call false (.f 16) [], (some (75, true))⟩ : IOper) ::
             (⟨(some 77), .pick (.t 75) (.t 76) (.c (.kb false)), none⟩ : IOper) ::
             (⟨(some 4), .mov (.t 77), none⟩ : IOper) ::
             [])))
           .ret))))))))))
def rd_l19_PortEncodes : List RD := [.tmp 4 true none]
theorem ok_l19_PortEncodes : fnOk Tryd.prog Tryd.f6 ir_l19_PortEncodes rd_l19_PortEncodes = true := by kernel_rfl
def S_l19_PortEncodes : List AV → List Obj → Option (Prop × AV)
  | [.imm (.cons (.int .u64) (.cons (.int .u64) (.cons .str (.cons (.cons (.int .u64) (.cons (.int .u64) (.cons (.int .u64) (.cons (.int .u64) (.cons (.int .u64) (.cons (.int .u64) (.cons (.int .u64) (.cons (.int .u64) .nil)))))))) .nil)))) l, .imm (.int .u8) more], [] => some ((True, .bool true))
  | _, _ => none
theorem snd_l19_PortEncodes : SoundS Tryd.prog 6 (RoF S_l19_PortEncodes).sum := by
  refine ro_fn Tryd.func6 ok_l19_PortEncodes (env_cons (s := RoF S_r19_Few) snd_r19_Few (env_cons (s := RoF S_l19_sure) snd_l19_sure (env_cons (s := RoF S_port_Encode) snd_port_Encode (env_cons (s := RoF S_r19_Encode) snd_r19_Encode (env_cons (s := RwF S_buffer_New) snd_buffer_New (env_cons (s := RwF S_buffer_Buffer_Bytes) snd_buffer_Buffer_Bytes (env_cons (s := RwF S_port_Put) snd_port_Put (env_cons (s := RwF S_buffer_Buffer_Done) snd_buffer_Buffer_Done (env_cons (s := RoF S_port_Right) snd_port_Right (env_cons (s := RoF S_r01_Bytes) snd_r01_Bytes (env_nil _))))))))))) fun args objs p v e => ?_
  unfold S_l19_PortEncodes at e
  split at e
  · rename_i l more
    cases e
    refine ⟨rfl, fun hw ho hp => ?_⟩
    change List Int at more
    change List PV at l
    have hwf := pwf_of (hw (.imm (.cons (.int .u64) (.cons (.int .u64) (.cons .str (.cons (.cons (.int .u64) (.cons (.int .u64) (.cons (.int .u64) (.cons (.int .u64) (.cons (.int .u64) (.cons (.int .u64) (.cons (.int .u64) (.cons (.int .u64) .nil)))))))) .nil)))) l) (by simp))
    clear hw ho
    by_cases hc : fewP l = true ∧ more.length ≤ 100
    · obtain ⟨hf, hm⟩ := hc
      have hl : l.length ≤ 40 := by unfold fewP at hf; simp only [Bool.and_eq_true, decide_eq_true_eq] at hf; exact hf.1
      obtain ⟨q1, q2, q3⟩ := enc_eq hwf (by omega)
      obtain ⟨q4, q5⟩ := put_law (l := l) hm q3
      have hroom : roomF 200000 = 200000 := by decide
      obtain ⟨b1, b2⟩ := buf_ok (x := more) (l := []) (room := 200000) (by simp only [List.length_nil]; omega)
      rw [List.nil_append] at b1
      have q6 : (putP more 200000 0 l).length ≤ 1000000 := bufB_le (by omega) (by decide)
      repeat' (intro t ht; first | (cases t <;> first | (cases ht; done) | ((try simp only [Bool.not_eq_eq_eq_not, Bool.not_true, Bool.not_false, Bool.and_eq_true, Bool.and_eq_false_iff, decide_eq_true_eq, decide_eq_false_iff_not] at ht); (try simp only [Int.toNat_natCast, dflt_int] at ht); (try (exfalso; first | contradiction | omega)))) | (refine ht ?_ ?_ <;> clear ht) | (refine ht.1 ?_ ?_ <;> clear ht) | (refine ht ?_; clear ht))
      all_goals (try simp only [hroom, b1, b2, q4, doneE_nil, doneL_nil, ← q1, ← q2] at *)
      all_goals first
        | exact True.intro
        | exact ⟨True.intro, True.intro⟩
        | exact ⟨rfl, by first | rfl | exact True.intro⟩
        | omega
        | (simp only [List.length_nil]; omega)
        | (simp only [List.length_append, List.length_nil]; omega)
        | contradiction
        | (exfalso; simp_all; done)
        | trace_state
    · repeat' (intro t ht; first | (cases t <;> first | (cases ht; done) | ((try simp only [Bool.not_eq_eq_eq_not, Bool.not_true, Bool.not_false, Bool.and_eq_true, Bool.and_eq_false_iff, decide_eq_true_eq, decide_eq_false_iff_not] at ht); (try simp only [Int.toNat_natCast, dflt_int] at ht); (try (exfalso; first | contradiction | omega)))) | (refine ht ?_ ?_ <;> clear ht) | (refine ht.1 ?_ ?_ <;> clear ht) | (refine ht ?_; clear ht))
      all_goals first
        | exact True.intro
        | exact ⟨rfl, rfl⟩
        | exact absurd ⟨by assumption, by omega⟩ hc
        | (exfalso; exact hc ⟨by assumption, by omega⟩)
        | trace_state
  · cases e
theorem law_take {b more : List Int} (hm : more.length ≤ 100) : (takeE (more.length : Int) (more ++ b) 0 263 0 = 0 ∧ takeP (more.length : Int) (more ++ b) 0 263 0 = more.length) := by
  have h : takeE (more.length : Int) (more ++ b) 0 263 0 = 0 := by
    unfold takeE; rw [if_neg (by omega), if_neg (by rw [List.length_append]; omega)]
  refine ⟨h, ?_⟩
  unfold takeP; rw [if_pos h]; omega
def ir_l19_PortDecodes : IR :=
 (.seq
  (.keep [0, 1]
  (.reg ((⟨(some 4), .mov (.c (.kb false)), none⟩ : IOper) ::
    [])))
  (.seq
   (.seq
    (.keep [0, 1]
    (.reg ((⟨(some 11), .mov (.t 0), none⟩ : IOper) ::
      (⟨(some 12), .len (.t 11), none⟩ : IOper) ::
      (⟨(some 13), .bin .gtr (.t 12) (.c (.int .i64 3000)), none⟩ : IOper) ::
      (⟨(some 14), .mov (.t 13), none⟩ : IOper) ::
      (⟨(some 15), .mov (.t 1), (some (14, false))⟩ : IOper) ::
      (⟨(some 16), .len (.t 15), (some (14, false))⟩ : IOper) ::
      (⟨(some 17), .bin .gtr (.t 16) (.c (.int .i64 100)), (some (14, false))⟩ : IOper) ::
      (⟨(some 18), .pick (.t 14) (.c (.kb true)) (.t 17), none⟩ : IOper) ::
      [])))
    (.cond (.t 18)
     (.seq
      (.keep []
      (.reg ((⟨(some 19), .call false (.f 16) [], none⟩ : IOper) ::
        (⟨(some 4), .mov (.t 19), none⟩ : IOper) ::
        [])))
      .ret)
     .skip))
   (.seq
    (.keep [0, 1]
    (.reg ((⟨(some 21), .mov (.t 0), none⟩ : IOper) ::
      (⟨(some 22), .call false (.f 17) [(.t 21)], none⟩ : IOper) ::
      (⟨(some 20), .mov (.t 22), none⟩ : IOper) ::
      (⟨(some 23), .extract (.t 20) 0, none⟩ : IOper) ::
      (⟨(some 24), .extract (.t 20) 1, none⟩ : IOper) ::
      (⟨(some 5), .mov (.t 23), none⟩ : IOper) ::
      (⟨(some 6), .mov (.t 24), none⟩ : IOper) ::
      [])))
    (.seq
     (.keep [0, 1, 5, 6]
     (.reg ((⟨(some 26), .mov (.t 0), none⟩ : IOper) ::
       (⟨(some 27), .call false (.f 18) [(.t 26)], none⟩ : IOper) ::
       (⟨(some 25), .mov (.t 27), none⟩ : IOper) ::
       (⟨(some 28), .extract (.t 25) 0, none⟩ : IOper) ::
       (⟨(some 29), .extract (.t 25) 1, none⟩ : IOper) ::
       (⟨(some 7), .mov (.t 28), none⟩ : IOper) ::
       (⟨(some 8), .mov (.t 29), none⟩ : IOper) ::
       [])))
     (.seq
      (.seq
       (.keep [0, 1, 5, 6, 7, 8]
       (.reg ((⟨(some 30), .mov (.t 5), none⟩ : IOper) ::
         (⟨(some 31), .mov (.t 7), none⟩ : IOper) ::
         (⟨(some 32), .call false (.f 19) [(.t 30), (.t 31)], none⟩ : IOper) ::
         (⟨(some 33), .un .not (.t 32), none⟩ : IOper) ::
         (⟨(some 34), .mov (.t 33), none⟩ : IOper) ::
         (⟨(some 35), .mov (.t 6), (some (34, false))⟩ : IOper) ::
         (⟨(some 36), .mov (.t 8), (some (34, false))⟩ : IOper) ::
         (⟨(some 37), .bin .neq (.t 35) (.t 36), (some (34, false))⟩ : IOper) ::
         (⟨(some 38), .pick (.t 34) (.c (.kb true)) (.t 37), none⟩ : IOper) ::
         [])))
       (.cond (.t 38)
        (.seq
         (.keep []
         (.reg ((⟨(some 4), .mov (.c (.kb false)), none⟩ : IOper) ::
           [])))
         .ret)
        .skip))
      (.seq
       (.keep [0, 1, 7, 8]
       (.reg ((⟨(some 39), .slice0 (.int .u8), none⟩ : IOper) ::
         (⟨(some 40), .mov (.t 1), none⟩ : IOper) ::
         (⟨(some 41), .append (.int .u8) 1 (.t 39) (.t 40), none⟩ : IOper) ::
         (⟨(some 42), .mov (.t 0), none⟩ : IOper) ::
         (⟨(some 43), .append (.int .u8) 1 (.t 41) (.t 42), none⟩ : IOper) ::
         (⟨(some 44), .call false (.f 20) [(.t 43), (.c (.int .i64 263)), (.c (.int .i64 269))], none⟩ : IOper) ::
         (⟨(some 9), .mov (.t 44), none⟩ : IOper) ::
         [])))
       (.seq
        (.keep [1, 7, 8, 9]
        (.reg ((⟨(some 45), .mov (.t 9), none⟩ : IOper) ::
          (⟨(some 46), .mov (.t 1), none⟩ : IOper) ::
          (⟨(some 47), .len (.t 46), none⟩ : IOper) ::
          (⟨(some 48), .call false (.f 21) [(.t 45), (.t 47)], none⟩ : IOper) ::
          [])))
        (.seq
         (.reg ((⟨(some 49), .mov (.t 9), none⟩ : IOper) ::
           (⟨(some 50), .call false (.f 22) [(.t 49)], none⟩ : IOper) ::
           (⟨(some 10), .mov (.t 50), none⟩ : IOper) ::
           []))
         (.seq
          (.keep [7, 8, 9, 10]
          (.reg ((⟨(some 51), .mov (.t 10), none⟩ : IOper) ::
            (⟨(some 52), .mov (.t 7), none⟩ : IOper) ::
            (⟨(some 53), .call false (.f 19) [(.t 51), (.t 52)], none⟩ : IOper) ::
            (⟨(some 54), .mov (.t 53), none⟩ : IOper) ::
            (⟨(some 55), .mov (.t 9), (some (54, true))⟩ : IOper) ::
            (⟨(some 56), .call false (.f 23) [(.t 55)], (some (54, true))⟩ : IOper) ::
            (⟨(some 57), .mov (.t 8), (some (54, true))⟩ : IOper) ::
            (⟨(some 58), .bin .eql (.t 56) (.t 57), (some (54, true))⟩ : IOper) ::
            (⟨(some 59), .pick (.t 54) (.t 58) (.c (.kb false)), none⟩ : IOper) ::
            (⟨(some 60), .mov (.t 59), none⟩ : IOper) ::
            (⟨(some 61), .mov (.t 8), (some (60, true))⟩ : IOper) ::
            (⟨(some 62), .bin .neq (.t 61) (.c (.int .i64 0)), (some (60, true))⟩ : IOper) ::
            (⟨(some 63), .mov (.t 62), (some (60, true))⟩ : IOper) ::
            (⟨(some 64), .mov (.t 9), (some (63, false))⟩ : IOper) ::
            (⟨(some 65), .call false (.f 24) [(.t 64)], (some (63, false))⟩ : IOper) ::
            (⟨(some 66), .bin .eql (.t 65) (.c (.int .i64 0)), (some (63, false))⟩ : IOper) ::
            (⟨(some 67), .pick (.t 63) (.c (.kb true)) (.t 66), (some (60, true))⟩ : IOper) ::
            (⟨(some 68), .pick (.t 60) (.t 67) (.c (.kb false)), none⟩ : IOper) ::
            (⟨(some 69), .mov (.t 68), none⟩ : IOper) ::
            (⟨(some 70), .call false (.f 16) [], (some (69, true))⟩ : IOper) ::
            (⟨(some 71), .pick (.t 69) (.t 70) (.c (.kb false)), none⟩ : IOper) ::
            (⟨(some 4), .mov (.t 71), none⟩ : IOper) ::
            [])))
          .ret)))))))))
def rd_l19_PortDecodes : List RD := [.tmp 4 true none]
theorem ok_l19_PortDecodes : fnOk Tryd.prog Tryd.f4 ir_l19_PortDecodes rd_l19_PortDecodes = true := by kernel_rfl
def S_l19_PortDecodes : List AV → List Obj → Option (Prop × AV)
  | [.imm (.int .u8) b, .imm (.int .u8) more], [] => some ((True, .bool true))
  | _, _ => none
theorem snd_l19_PortDecodes : SoundS Tryd.prog 4 (RoF S_l19_PortDecodes).sum := by
  refine ro_fn Tryd.func4 ok_l19_PortDecodes (env_cons (s := RoF S_l19_sure) snd_l19_sure (env_cons (s := RoF S_port_Decode) snd_port_Decode (env_cons (s := RoF S_r19_Decode) snd_r19_Decode (env_cons (s := RoF S_r19_Same) snd_r19_Same (env_cons (s := RwF S_cursor_New) snd_cursor_New (env_cons (s := RwF S_cursor_Cursor_Bytes) snd_cursor_Cursor_Bytes (env_cons (s := RwF S_port_Take) snd_port_Take (env_cons (s := RoF S_cursor_Cursor_Err) snd_cursor_Cursor_Err (env_cons (s := RoF S_cursor_Cursor_Left) snd_cursor_Cursor_Left (env_nil _)))))))))) fun args objs p v e => ?_
  unfold S_l19_PortDecodes at e
  split at e
  · rename_i b more
    cases e
    refine ⟨rfl, fun hw ho hp => ?_⟩
    change List Int at b
    change List Int at more
    clear hw ho
    by_cases hc : b.length ≤ 3000 ∧ more.length ≤ 100
    · obtain ⟨hb, hm⟩ := hc
      obtain ⟨t1, t2⟩ := law_take (b := b) hm
      have hd : (more ++ b).drop more.length = b := List.drop_left
      have hl : (more ++ b).length = more.length + b.length := List.length_append
      have hz : dE b = 0 → (dG b).2.2 = b.length := fun h => (dG_len b h).1
      repeat' (intro t ht; first | (cases t <;> first | (cases ht; done) | ((try simp only [Bool.not_eq_eq_eq_not, Bool.not_true, Bool.not_false, Bool.and_eq_true, Bool.and_eq_false_iff, decide_eq_true_eq, decide_eq_false_iff_not] at ht); (try simp only [Int.toNat_natCast, dflt_int] at ht); (try (exfalso; first | contradiction | omega)))) | (refine ht ?_ ?_ <;> clear ht) | (refine ht.1 ?_ ?_ <;> clear ht) | (refine ht ?_; clear ht))
      all_goals (try simp only [List.nil_append, t1, t2, hd, Int.toNat_natCast, not_true_eq_false] at *)
      all_goals first
        | exact True.intro
        | exact ⟨True.intro, True.intro⟩
        | exact ⟨rfl, by first | rfl | exact True.intro⟩
        | omega
        | (simp only [List.length_nil]; omega)
        | exact ⟨by omega, by omega, by omega, by decide⟩
        | exact ⟨by omega, by omega, by omega, by decide, True.intro⟩
        | (have h := hz (by assumption); omega)
        | (exfalso; have h := hz (by assumption); omega)
        | trace_state
    · repeat' (intro t ht; first | (cases t <;> first | (cases ht; done) | ((try simp only [Bool.not_eq_eq_eq_not, Bool.not_true, Bool.not_false, Bool.and_eq_true, Bool.and_eq_false_iff, decide_eq_true_eq, decide_eq_false_iff_not] at ht); (try simp only [Int.toNat_natCast, dflt_int] at ht); (try (exfalso; first | contradiction | omega)))) | (refine ht ?_ ?_ <;> clear ht) | (refine ht.1 ?_ ?_ <;> clear ht) | (refine ht ?_; clear ht))
      all_goals first
        | exact True.intro
        | exact ⟨rfl, rfl⟩
        | exact absurd ⟨by omega, by omega⟩ hc
        | (exfalso; exact hc ⟨by omega, by omega⟩)
        | trace_state
  · cases e
end Go.Eng
