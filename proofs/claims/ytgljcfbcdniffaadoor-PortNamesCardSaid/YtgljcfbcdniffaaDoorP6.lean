/- Contracts of functions of the given program, told by plain Lean functions. No condition. -/
import Derived.Test.YtgljcfbcdniffaaDoorProg
import Derived.Test.YtgljcfbcdniffaaDoorESum
import Derived.KernelRfl
import Derived.Test.YtgljcfbcdniffaaDoorP5
namespace Go.Eng
open Go.Proofs
set_option linter.unusedVariables false
set_option linter.unusedSimpArgs false
set_option maxRecDepth 100000
set_option maxHeartbeats 1000000
theorem idxA_ne {c : Int} {b : List Int} {i : Nat} (h : i < b.length) (hk : ¬ b.getD i 0 = c) : idxA c (b.drop i) i = idxA c (b.drop (i + 1)) ((i + 1 : Nat) : Int) := by
  rw [drop_step h 0]; exact if_neg hk
theorem idxA_at {c : Int} {b : List Int} {i : Nat} (h : i < b.length) (hk : b.getD i 0 = c) : idxA c (b.drop i) i = i := by
  rw [drop_step h 0]; exact if_pos hk
theorem idxA_end {c : Int} {b : List Int} {i : Nat} (h : b.length ≤ i) : idxA c (b.drop i) i = -1 := by
  rw [List.drop_of_length_le h]; rfl
def zi (b : List Int) : Nat := if 0 ≤ idxA 0 b 0 then (idxA 0 b 0).toNat else b.length
theorem zi_le (b : List Int) : zi b ≤ b.length := by
  have := idxA_le (c := 0) b 0 (Int.le_refl _)
  unfold zi; split <;> omega
theorem zi_at {b : List Int} {i : Nat} (h : i < b.length) (he : idxA 0 b 0 = idxA 0 (b.drop i) i) (hk : b.getD i 0 = 0) : zi b = i := by
  unfold zi; rw [he, idxA_at h hk, if_pos (by omega)]; omega
theorem zi_end {b : List Int} {i : Nat} (h : b.length ≤ i) (he : idxA 0 b 0 = idxA 0 (b.drop i) i) : zi b = b.length := by
  unfold zi; rw [he, idxA_end h]; rfl
def nmS (b : List Int) : List Int := if zeroL (b.drop (zi b)) = true then b.take (zi b) else []
def nmK (b : List Int) : Bool := zeroL (b.drop (zi b)) && (decide (zi b < 16) && nameF (b.take (zi b)))
def ir_r19_name : IR :=
 (.seq
  (.keep [0]
  (.reg ((⟨(some 2), .mov (.c (.str [])), none⟩ : IOper) ::
    (⟨(some 3), .mov (.c (.kb false)), none⟩ : IOper) ::
    [])))
  (.seq
   (.reg ((⟨(some 4), .mov (.c (.int .i64 0)), none⟩ : IOper) ::
     []))
   (.seq
    (.block 0
     (.loop
      (.seq
       (.seq
        (.keep [0, 4]
        (.reg ((⟨(some 6), .mov (.t 4), none⟩ : IOper) ::
          (⟨(some 7), .bin .lss (.t 6) (.c (.int .i64 16)), none⟩ : IOper) ::
          (⟨(some 8), .mov (.t 7), none⟩ : IOper) ::
          (⟨(some 9), .mov (.t 0), (some (8, true))⟩ : IOper) ::
          (⟨(some 10), .mov (.t 4), (some (8, true))⟩ : IOper) ::
          (⟨(some 11), .indexSl 1 (.t 9) (.t 10), (some (8, true))⟩ : IOper) ::
          (⟨(some 12), .load none (.t 11), (some (8, true))⟩ : IOper) ::
          (⟨(some 13), .bin .neq (.t 12) (.c (.int .u8 0)), (some (8, true))⟩ : IOper) ::
          (⟨(some 14), .pick (.t 8) (.t 13) (.c (.kb false)), none⟩ : IOper) ::
          [])))
        (.cond (.t 14)
         .skip
         (.exit 0)))
       (.block 1
        (.keep [0, 4]
        (.reg ((⟨(some 15), .mov (.t 4), none⟩ : IOper) ::
          (⟨(some 16), .bin .add (.t 15) (.c (.int .i64 1)), none⟩ : IOper) ::
          (⟨(some 4), .mov (.t 16), none⟩ : IOper) ::
          [])))))))
    (.seq
     (.seq
      (.keep [0, 4]
      (.reg ((⟨(some 17), .mov (.t 4), none⟩ : IOper) ::
        (⟨(some 5), .mov (.t 17), none⟩ : IOper) ::
        [])))
      (.block 2
       (.loop
        (.seq
         (.seq
          (.keep [0, 4, 5]
          (.reg ((⟨(some 18), .mov (.t 5), none⟩ : IOper) ::
            (⟨(some 19), .bin .lss (.t 18) (.c (.int .i64 16)), none⟩ : IOper) ::
            [])))
          (.cond (.t 19)
           .skip
           (.exit 2)))
         (.seq
          (.block 3
           (.seq
            (.keep [0, 4, 5]
            (.reg ((⟨(some 22), .mov (.t 0), none⟩ : IOper) ::
              (⟨(some 23), .mov (.t 5), none⟩ : IOper) ::
              (⟨(some 24), .indexSl 1 (.t 22) (.t 23), none⟩ : IOper) ::
              (⟨(some 25), .load none (.t 24), none⟩ : IOper) ::
              (⟨(some 26), .bin .neq (.t 25) (.c (.int .u8 0)), none⟩ : IOper) ::
              [])))
            (.cond (.t 26)
             (.seq
              (.reg ((⟨(some 2), .mov (.c (.str [])), none⟩ : IOper) ::
                (⟨(some 3), .mov (.c (.kb false)), none⟩ : IOper) ::
                []))
              .ret)
             .skip)))
          (.keep [0, 4, 5]
          (.reg ((⟨(some 20), .mov (.t 5), none⟩ : IOper) ::
            (⟨(some 21), .bin .add (.t 20) (.c (.int .i64 1)), none⟩ : IOper) ::
            (⟨(some 5), .mov (.t 21), none⟩ : IOper) ::
            []))))))))
     (.seq
      (.keep [0, 4]
      (.regD (((⟨(some 27), .mov (.t 0), none⟩, []) : IOper × List Nat) ::
        ((⟨(some 28), .mov (.t 4), none⟩, [0]) : IOper × List Nat) ::
        ((⟨(some 29), .slice 1 (.t 27) none (some (.t 28)) none, none⟩, []) : IOper × List Nat) ::
        ((⟨(some 30), .b2s (.t 29), none⟩, []) : IOper × List Nat) ::
        ((⟨(some 31), .mov (.t 4), none⟩, [0, 0, 0, 0]) : IOper × List Nat) ::
        ((⟨(some 32), .bin .lss (.t 31) (.c (.int .i64 16)), none⟩, [1, 0, 0, 0]) : IOper × List Nat) ::
        ((⟨(some 33), .mov (.t 32), none⟩, [2, 0, 0, 0]) : IOper × List Nat) ::
        ((⟨(some 34), .mov (.t 0), (some (33, true))⟩, [3, 0, 0, 0]) : IOper × List Nat) ::
        ((⟨(some 35), .mov (.t 4), (some (33, true))⟩, [0, 3, 0, 0, 0]) : IOper × List Nat) ::
        ((⟨(some 36), .slice 1 (.t 34) none (some (.t 35)) none, (some (33, true))⟩, [5, 0, 0, 0]) : IOper × List Nat) ::
        ((⟨(some 37), .b2s (.t 36), (some (33, true))⟩, [6, 0, 0, 0]) : IOper × List Nat) ::
        ((⟨(some 38), .call false (.f 26) [(.t 37)], (some (33, true))⟩, [7, 0, 0, 0]) : IOper × List Nat) ::
        ((⟨(some 39), .pick (.t 33) (.t 38) (.c (.kb false)), none⟩, [8, 0, 0, 0]) : IOper × List Nat) ::
        ((⟨(some 2), .mov (.t 30), none⟩, [0]) : IOper × List Nat) ::
        ((⟨(some 3), .mov (.t 39), none⟩, []) : IOper × List Nat) ::
        [])))
      .ret)))))
def rd_r19_name : List RD := [.tmp 2 true none, .tmp 3 true none]
theorem ok_r19_name : fnOk Tryd.prog Tryd.f51 ir_r19_name rd_r19_name = true := by kernel_rfl
def S_r19_name : List AV → List Obj → Option (Prop × AV)
  | [.imm (.int .u8) b], [] => some ((b.length = 16, .tup [.str (nmS b), .bool (nmK b)]))
  | _, _ => none
theorem snd_r19_name : SoundS Tryd.prog 51 (RoF S_r19_name).sum := by
  refine ro_fn Tryd.func51 ok_r19_name (env_cons (s := RoF S_r19_Name) snd_r19_Name (env_nil _)) fun args objs p v e => ?_
  unfold S_r19_name at e
  split at e
  · rename_i b
    cases e
    refine ⟨rfl, fun hw ho hp => ?_⟩
    change List Int at b
    clear hw ho
    repeat' (intro t ht; first | (cases t <;> first | (cases ht; done) | ((try simp only [Bool.not_eq_eq_eq_not, Bool.not_true, Bool.not_false, Bool.and_eq_true, Bool.and_eq_false_iff, decide_eq_true_eq, decide_eq_false_iff_not] at ht); (try simp only [Int.toNat_natCast, dflt_int] at ht))) | (refine ht ?_ ?_ <;> clear ht) | (refine ht.1 ?_ ?_ <;> clear ht) | (refine ht ?_; clear ht))
    all_goals first
      | exact True.intro
      | (intro r h1 h2; clear h1; refine h2 ⟨[0, 4], Nat, (fun i => i ≤ 16 ∧ idxA 0 b 0 = idxA 0 (b.drop i) i), fun i => [.imm (.int .u8) b, .int .i64 i], fun _ => [], fun i => 16 - i, ⟨0, ⟨Nat.zero_le _, rfl⟩, rfl, rfl⟩, ?_⟩; clear h2)
      | trace_state
    rintro i ⟨hi, he⟩
    repeat' (intro t ht; first | (cases t <;> first | (cases ht; done) | ((try simp only [Bool.not_eq_eq_eq_not, Bool.not_true, Bool.not_false, Bool.and_eq_true, Bool.and_eq_false_iff, decide_eq_true_eq, decide_eq_false_iff_not] at ht); (try simp only [Int.toNat_natCast, dflt_int] at ht); (try (exfalso; first | contradiction | omega)))) | (refine ht ?_ ?_ <;> clear ht) | (refine ht.1 ?_ ?_ <;> clear ht) | (refine ht ?_; clear ht))
    all_goals first
      | exact True.intro
      | ((try simp only [Int.toNat_natCast, dflt_int, decide_eq_true_eq, decide_eq_false_iff_not, Bool.not_eq_eq_eq_not, Bool.not_true, Bool.not_false, Bool.and_eq_true, Bool.and_eq_false_iff, min_i64, max_i64, min_u64, max_u64, min_u32, max_u32, min_u16, max_u16, min_u8, max_u8] at *); omega)
      | (have hz : zi b = i := by
           first
             | (exact (zi_end (by omega) he).trans (by omega))
             | (exact zi_at (by omega) he (by assumption))
         (intro r h1 h2; clear h1; refine h2 ⟨[0, 4, 5], Nat, (fun j => i ≤ j ∧ j ≤ 16 ∧ zeroL ((b.drop i).take (j - i)) = true), fun j => [.imm (.int .u8) b, .int .i64 i, .int .i64 j], fun _ => [], fun j => 16 - j, ⟨i, ⟨Nat.le_refl _, hi, by rw [Nat.sub_self]; rfl⟩, rfl, rfl⟩, ?_⟩; clear h2))
      | exact ⟨i + 1, ⟨by omega, he.trans (idxA_ne (by omega) (by assumption))⟩, by dsimp only; omega, rfl, rfl⟩
      | trace_state
    all_goals rintro j ⟨hj1, hj2, hj3⟩
    all_goals repeat' (intro t ht; first | (cases t <;> first | (cases ht; done) | ((try simp only [Bool.not_eq_eq_eq_not, Bool.not_true, Bool.not_false, Bool.and_eq_true, Bool.and_eq_false_iff, decide_eq_true_eq, decide_eq_false_iff_not] at ht); (try simp only [Int.toNat_natCast, dflt_int] at ht); (try (exfalso; first | contradiction | omega)))) | (refine ht ?_ ?_ <;> clear ht) | (refine ht.1 ?_ ?_ <;> clear ht) | (refine ht ?_; clear ht))
    all_goals first
      | exact True.intro
      | ((try simp only [Int.toNat_natCast, dflt_int, decide_eq_true_eq, decide_eq_false_iff_not, Bool.not_eq_eq_eq_not, Bool.not_true, Bool.not_false, Bool.and_eq_true, Bool.and_eq_false_iff, min_i64, max_i64, min_u64, max_u64, min_u32, max_u32, min_u16, max_u16, min_u8, max_u8] at *); omega)
      | (have h0 : zeroL (b.drop (zi b)) = false := by
           rw [hz]
           have := zeroT_odd (b := b) (p := i) (k := j) (n := b.length) (by omega) hj1 (by omega) (by assumption)
           rwa [List.take_of_length_le (by rw [List.length_drop]; omega)] at this
         refine ⟨?_, rfl⟩; unfold nmS nmK; rw [h0]; rfl)
      | exact ⟨j + 1, ⟨by omega, by omega, zeroT_step (by omega) hj3 hj1 (by assumption)⟩, by dsimp only; omega, rfl, rfl⟩
      | (have h0 : zeroL (b.drop (zi b)) = true := by
           rw [hz]; rwa [List.take_of_length_le (by rw [List.length_drop]; omega)] at hj3
         refine ⟨?_, rfl⟩; unfold nmS nmK; rw [h0, hz]
         first
           | (rw [decide_eq_true (by omega)]; rfl)
           | (rw [decide_eq_false (by omega)]; rfl))
      | trace_state
  · cases e
def dG (y : List Int) : List PV × Int × Int :=
  if y.length = 0 then ([], 0, 0) else if y.length < 64 then ([], 263, 0) else if t5E (y.take 64) = 0 then (tV (y.take 64) :: (dG (y.drop 64)).1, (dG (y.drop 64)).2.1, 64 + (dG (y.drop 64)).2.2) else ([], t5E (y.take 64), 64)
termination_by y.length
decreasing_by all_goals (rw [List.length_drop]; omega)
theorem dG_nil {y : List Int} (h : y.length = 0) : dG y = ([], 0, 0) := by rw [dG, if_pos h]
theorem dG_short {y : List Int} (h : ¬ y.length = 0) (h1 : y.length < 64) : dG y = ([], 263, 0) := by rw [dG, if_neg h, if_pos h1]
theorem dG_ok {y : List Int} (h1 : ¬ y.length < 64) (h2 : t5E (y.take 64) = 0) : dG y = (tV (y.take 64) :: (dG (y.drop 64)).1, (dG (y.drop 64)).2.1, 64 + (dG (y.drop 64)).2.2) := by rw [dG, if_neg (by omega), if_neg h1, if_pos h2]
theorem dG_bad {y : List Int} (h1 : ¬ y.length < 64) (h2 : ¬ t5E (y.take 64) = 0) : dG y = ([], t5E (y.take 64), 64) := by rw [dG, if_neg (by omega), if_neg h1, if_neg h2]
def dL (y : List Int) : List PV := if (dG y).2.1 = 0 then (dG y).1 else []
def dE (y : List Int) : Int := (dG y).2.1
theorem tk_short {b : List Int} {p : Nat} {sh : Int} (h : (b.drop p).length < 64) (hp : p ≤ b.length) : tkP b p sh = p ∧ tkE b p sh = 263 := by
  rw [List.length_drop] at h
  exact ⟨if_pos (by omega), if_pos (by omega)⟩
theorem tk_long {b : List Int} {p : Nat} {sh : Int} (h : ¬ (b.drop p).length < 64) : tkP b p sh = ((p + 64 : Nat) : Int) ∧ tkE b p sh = t5E ((b.drop p).take 64) ∧ tkV b p sh = tV ((b.drop p).take 64) := by
  rw [List.length_drop] at h
  have hn : ¬ (b.length : Int) - p < 64 := by omega
  have hE : takeE 64 b p sh 0 = 0 := by unfold takeE; rw [if_neg (by decide), if_neg hn]
  have hL : takeL 64 b p sh 0 = (b.drop p).take 64 := by
    unfold takeL; rw [if_pos hE, show ((p : Int) + 64).toNat = p + 64 by omega, Int.toNat_natCast, List.drop_take]; congr 1; omega
  refine ⟨?_, ?_, ?_⟩
  · unfold tkP takeP; rw [if_neg hn, if_pos hE]; rfl
  · unfold tkE; rw [if_neg hn, hE, hL]; rfl
  · unfold tkV; rw [if_neg hn, hL]
def ir_port_Take : IR :=
 (.seq
  (.keep [0]
  (.reg ((⟨(some 2), .nilrow (.cons (.int .u64) (.cons (.int .u64) (.cons .str (.cons (.cons (.int .u64) (.cons (.int .u64) (.cons (.int .u64) (.cons (.int .u64) (.cons (.int .u64) (.cons (.int .u64) (.cons (.int .u64) (.cons (.int .u64) .nil)))))))) .nil)))), none⟩ : IOper) ::
    [])))
  (.seq
   (.reg ((⟨(some 4), .mov (.t 0), none⟩ : IOper) ::
     (⟨(some 5), .call false (.f 24) [(.t 4)], none⟩ : IOper) ::
     (⟨(some 3), .mov (.t 5), none⟩ : IOper) ::
     []))
   (.seq
    (.block 0
     (.loop
      (.seq
       (.seq
        (.keep [0, 2, 3]
        (.reg ((⟨(some 6), .mov (.t 0), none⟩ : IOper) ::
          (⟨(some 7), .call false (.f 23) [(.t 6)], none⟩ : IOper) ::
          (⟨(some 8), .bin .eql (.t 7) (.c (.int .i64 0)), none⟩ : IOper) ::
          (⟨(some 9), .mov (.t 8), none⟩ : IOper) ::
          (⟨(some 10), .mov (.t 0), (some (9, true))⟩ : IOper) ::
          (⟨(some 11), .call false (.f 24) [(.t 10)], (some (9, true))⟩ : IOper) ::
          (⟨(some 12), .bin .gtr (.t 11) (.c (.int .i64 0)), (some (9, true))⟩ : IOper) ::
          (⟨(some 13), .pick (.t 9) (.t 12) (.c (.kb false)), none⟩ : IOper) ::
          [])))
        (.cond (.t 13)
         .skip
         (.exit 0)))
       (.block 1
        (.keep [0, 2, 3]
        (.reg ((⟨(some 14), .mov (.t 2), none⟩ : IOper) ::
          (⟨(some 15), .mov (.t 0), none⟩ : IOper) ::
          (⟨(some 16), .call false (.f 54) [(.t 15)], none⟩ : IOper) ::
          (⟨(some 17), .sliceAll (.cons (.int .u64) (.cons (.int .u64) (.cons .str (.cons (.cons (.int .u64) (.cons (.int .u64) (.cons (.int .u64) (.cons (.int .u64) (.cons (.int .u64) (.cons (.int .u64) (.cons (.int .u64) (.cons (.int .u64) .nil)))))))) .nil)))) 1 [(0, 11, (.t 16))], none⟩ : IOper) ::
          (⟨(some 18), .append (.cons (.int .u64) (.cons (.int .u64) (.cons .str (.cons (.cons (.int .u64) (.cons (.int .u64) (.cons (.int .u64) (.cons (.int .u64) (.cons (.int .u64) (.cons (.int .u64) (.cons (.int .u64) (.cons (.int .u64) .nil)))))))) .nil)))) 96 (.t 14) (.t 17), none⟩ : IOper) ::
          (⟨(some 2), .mov (.t 18), none⟩ : IOper) ::
          [])))))))
    (.seq
     (.seq
      (.keep [0, 2, 3]
      (.reg ((⟨(some 19), .mov (.t 3), none⟩ : IOper) ::
        (⟨(some 20), .bin .gtr (.t 19) (.c (.int .i64 65472)), none⟩ : IOper) ::
        [])))
      (.cond (.t 20)
       (.reg ((⟨(some 21), .mov (.t 0), none⟩ : IOper) ::
         (⟨(some 22), .call false (.f 55) [(.t 21), (.c (.int .i64 263))], none⟩ : IOper) ::
         []))
       .skip))
     (.seq
      (.seq
       (.reg ((⟨(some 23), .mov (.t 0), none⟩ : IOper) ::
         (⟨(some 24), .call false (.f 23) [(.t 23)], none⟩ : IOper) ::
         (⟨(some 25), .bin .neq (.t 24) (.c (.int .i64 0)), none⟩ : IOper) ::
         []))
       (.cond (.t 25)
        (.seq
         (.keep []
         (.reg ((⟨(some 2), .nilrow (.cons (.int .u64) (.cons (.int .u64) (.cons .str (.cons (.cons (.int .u64) (.cons (.int .u64) (.cons (.int .u64) (.cons (.int .u64) (.cons (.int .u64) (.cons (.int .u64) (.cons (.int .u64) (.cons (.int .u64) .nil)))))))) .nil)))), none⟩ : IOper) ::
           [])))
         .ret)
        .skip))
      (.seq
       (.keep [2]
       (.reg ((⟨(some 26), .mov (.t 2), none⟩ : IOper) ::
         (⟨(some 2), .mov (.t 26), none⟩ : IOper) ::
         [])))
       .ret))))))
def rd_port_Take : List RD := [.tmp 2 true (some (.cons (.int .u64) (.cons (.int .u64) (.cons .str (.cons (.cons (.int .u64) (.cons (.int .u64) (.cons (.int .u64) (.cons (.int .u64) (.cons (.int .u64) (.cons (.int .u64) (.cons (.int .u64) (.cons (.int .u64) .nil)))))))) .nil)))))]
theorem ok_port_Take : fnOk Tryd.prog Tryd.f22 ir_port_Take rd_port_Take = true := by kernel_rfl
def S_port_Take : List AV → List Obj → Option (Prop × AV × List Obj)
  | [.ptr 0 0], [.box [.imm (.int .u8) b, .int .i64 p, .int .i64 sh, .int .i64 od, .int .i64 e, .bool true]] => some ((0 ≤ p ∧ p ≤ b.length ∧ b.length ≤ 60000 ∧ sh ≠ 0 ∧ e = 0, .imm (.cons (.int .u64) (.cons (.int .u64) (.cons .str (.cons (.cons (.int .u64) (.cons (.int .u64) (.cons (.int .u64) (.cons (.int .u64) (.cons (.int .u64) (.cons (.int .u64) (.cons (.int .u64) (.cons (.int .u64) .nil)))))))) .nil)))) (dL (b.drop p.toNat)), [.box [.imm (.int .u8) b, .int .i64 (p + (dG (b.drop p.toNat)).2.2), .int .i64 sh, .int .i64 od, .int .i64 (dE (b.drop p.toNat)), .bool true]]))
  | _, _ => none
theorem snd_port_Take : SoundS Tryd.prog 22 (RwF S_port_Take).sum := by
  refine rw_fn Tryd.func22 ok_port_Take (env_cons (s := RoF S_cursor_Cursor_Left) snd_cursor_Cursor_Left (env_cons (s := RoF S_cursor_Cursor_Err) snd_cursor_Cursor_Err (env_cons (s := RwF S_port_take) snd_port_take (env_cons (s := RwF S_cursor_Cursor_Fail) snd_cursor_Cursor_Fail (env_nil _))))) fun args objs p v o e => ?_
  unfold S_port_Take at e
  split at e
  · rename_i b p sh od e
    cases e
    refine ⟨rfl, fun hw ho hp => ?_⟩
    change List Int at b
    clear hw ho
    obtain ⟨hp0, hp1, hp2, hp3, rfl⟩ := hp
    obtain ⟨p, rfl⟩ := Int.eq_ofNat_of_zero_le hp0
    rw [Int.toNat_natCast]
    repeat' (intro t ht; first | (cases t <;> first | (cases ht; done) | ((try simp only [Bool.not_eq_eq_eq_not, Bool.not_true, Bool.not_false, Bool.and_eq_true, Bool.and_eq_false_iff, decide_eq_true_eq, decide_eq_false_iff_not] at ht); (try simp only [Int.toNat_natCast, dflt_int] at ht); (try (exfalso; first | contradiction | omega)))) | (refine ht ?_ ?_ <;> clear ht) | (refine ht.1 ?_ ?_ <;> clear ht) | (refine ht ?_; clear ht))
    all_goals first
      | exact True.intro
      | exact ⟨hp0, hp1⟩
      | (intro r h1 h2; clear h1; refine h2 ⟨[0, 2, 3], Nat × Int × List PV, (fun a => a.1 ≤ b.length ∧ 64 * a.2.2.length ≤ a.1 + 64 ∧ ((a.2.1 = 0 ∧ 64 * a.2.2.length ≤ a.1 ∧ (dG (b.drop p)).1 = a.2.2 ++ (dG (b.drop a.1)).1 ∧ (dG (b.drop p)).2.1 = (dG (b.drop a.1)).2.1 ∧ p + (dG (b.drop p)).2.2 = a.1 + (dG (b.drop a.1)).2.2) ∨ (a.2.1 ≠ 0 ∧ (dG (b.drop p)).2.1 = a.2.1 ∧ p + (dG (b.drop p)).2.2 = a.1))), fun a => [.ptr 0 0, .own 1, .int .i64 (b.length - p)], fun a => [.box [.imm (.int .u8) b, .int .i64 a.1, .int .i64 sh, .int .i64 od, .int .i64 a.2.1, .bool true], .row false (.cons (.int .u64) (.cons (.int .u64) (.cons .str (.cons (.cons (.int .u64) (.cons (.int .u64) (.cons (.int .u64) (.cons (.int .u64) (.cons (.int .u64) (.cons (.int .u64) (.cons (.int .u64) (.cons (.int .u64) .nil)))))))) .nil)))) a.2.2], fun a => 2 * (b.length - a.1) + (if a.2.1 = 0 then 1 else 0), ⟨(p, 0, []), ⟨by dsimp only; omega, by simp, .inl ⟨rfl, by simp, rfl, rfl, rfl⟩⟩, rfl, rfl⟩, ?_⟩; clear h2)
      | trace_state
    rintro ⟨q, e, acc⟩ ⟨hq, hl, hJ⟩
    dsimp only at hq hl hJ
    repeat' (intro t ht; first | (cases t <;> first | (cases ht; done) | ((try simp only [Bool.not_eq_eq_eq_not, Bool.not_true, Bool.not_false, Bool.and_eq_true, Bool.and_eq_false_iff, decide_eq_true_eq, decide_eq_false_iff_not] at ht); (try simp only [Int.toNat_natCast, dflt_int] at ht); (try (exfalso; first | contradiction | omega)))) | (refine ht ?_ ?_ <;> clear ht) | (refine ht.1 ?_ ?_ <;> clear ht) | (refine ht ?_; clear ht))
    all_goals (try dsimp only)
    all_goals first
      | exact ⟨Int.natCast_nonneg _, by omega⟩
      | exact ⟨Int.natCast_nonneg _, by omega, by omega, hp3, by assumption⟩
      | (simp only [List.length_cons, List.length_nil]; omega)
      | (have h0 : ¬ e = 0 := by assumption
         rcases hJ with hJ | ⟨_, j2, j3⟩
         · exact absurd hJ.1 h0
         · have d1 : dL (b.drop p) = [] := by unfold dL; rw [j2, if_neg h0]
           have d2 : dE (b.drop p) = e := j2
           rw [d1, d2, j3]; exact ⟨rfl, rfl⟩)
      | skip
    all_goals have h0 : e = 0 := by assumption
    all_goals subst h0
    all_goals rcases hJ with ⟨_, j1, j2, j3, j4⟩ | hJ
    all_goals first
      | exact absurd rfl hJ.1
      | (have hn : (b.drop q).length = 0 := by rw [List.length_drop]; omega
         rw [dG_nil hn] at j2 j3 j4
         have d1 : dL (b.drop p) = acc := by unfold dL; rw [j3, j2, if_pos rfl, List.append_nil]
         have d2 : dE (b.drop p) = 0 := j3
         dsimp only at j4
         rw [d1, d2, j4, Int.add_zero]; exact ⟨rfl, rfl⟩)
      | skip
    all_goals have hn : ¬ (b.drop q).length = 0 := by rw [List.length_drop]; omega
    all_goals by_cases hs : (b.drop q).length < 64
    all_goals first
      | (obtain ⟨k1, k2⟩ := tk_short (sh := sh) hs hq
         rw [dG_short hn hs] at j2 j3 j4
         rw [k1, k2]
         refine ⟨(q, 263, acc ++ [tkV b q sh]), ⟨hq, ?_, .inr ⟨(show (263 : Int) ≠ 0 by decide), j3, ?_⟩⟩, ?_, rfl, rfl⟩
         · simp only [List.length_append, List.length_cons, List.length_nil]; omega
         · dsimp only at j4 ⊢; omega
         · dsimp only; rw [if_neg (show ¬ (263 : Int) = 0 by decide), if_pos rfl]; omega)
      | (obtain ⟨k1, k2, k3⟩ := tk_long (sh := sh) hs
         have hlen : (b.drop q).length = b.length - q := List.length_drop
         rw [k1, k2]
         by_cases h5 : t5E ((b.drop q).take 64) = 0
         · rw [dG_ok hs h5] at j2 j3 j4
           rw [List.drop_drop] at j2 j3 j4
           refine ⟨(q + 64, t5E ((b.drop q).take 64), acc ++ [tkV b q sh]), ⟨?_, ?_, .inl ⟨h5, ?_, ?_, j3, ?_⟩⟩, ?_, rfl, rfl⟩
           · dsimp only; omega
           · simp only [List.length_append, List.length_cons, List.length_nil]; omega
           · simp only [List.length_append, List.length_cons, List.length_nil]; omega
           · dsimp only; rw [j2, k3, List.append_assoc]; rfl
           · dsimp only at j4 ⊢; omega
           · dsimp only; rw [h5]; omega
         · rw [dG_bad hs h5] at j2 j3 j4
           refine ⟨(q + 64, t5E ((b.drop q).take 64), acc ++ [tkV b q sh]), ⟨?_, ?_, .inr ⟨h5, j3, ?_⟩⟩, ?_, rfl, rfl⟩
           · dsimp only; omega
           · simp only [List.length_append, List.length_cons, List.length_nil]; omega
           · dsimp only at j4 ⊢; omega
           · dsimp only; rw [if_neg h5, if_pos rfl]; omega)
      | trace_state
  · cases e
def ir_port_Decode : IR :=
 (.seq
  (.keep [0]
  (.reg ((⟨(some 2), .mov (.c (.imm (.cons (.int .u64) (.cons (.int .u64) (.cons .str (.cons (.cons (.int .u64) (.cons (.int .u64) (.cons (.int .u64) (.cons (.int .u64) (.cons (.int .u64) (.cons (.int .u64) (.cons (.int .u64) (.cons (.int .u64) .nil)))))))) .nil)))) [])), none⟩ : IOper) ::
    (⟨(some 3), .mov (.c (.int .i64 0)), none⟩ : IOper) ::
    [])))
  (.seq
   (.reg ((⟨(some 6), .mov (.t 0), none⟩ : IOper) ::
     (⟨(some 7), .call false (.f 20) [(.t 6), (.c (.int .i64 263)), (.c (.int .i64 263))], none⟩ : IOper) ::
     (⟨(some 4), .mov (.t 7), none⟩ : IOper) ::
     []))
   (.seq
    (.reg ((⟨(some 8), .mov (.t 4), none⟩ : IOper) ::
      (⟨(some 9), .call false (.f 22) [(.t 8)], none⟩ : IOper) ::
      (⟨(some 5), .mov (.t 9), none⟩ : IOper) ::
      []))
    (.seq
     (.keep [4, 5]
     (.reg ((⟨(some 10), .mov (.t 5), none⟩ : IOper) ::
       (⟨(some 11), .mov (.t 4), none⟩ : IOper) ::
       (⟨(some 12), .call false (.f 23) [(.t 11)], none⟩ : IOper) ::
       (⟨(some 2), .mov (.t 10), none⟩ : IOper) ::
       (⟨(some 3), .mov (.t 12), none⟩ : IOper) ::
       [])))
     .ret))))
def rd_port_Decode : List RD := [.tmp 2 true (some (.cons (.int .u64) (.cons (.int .u64) (.cons .str (.cons (.cons (.int .u64) (.cons (.int .u64) (.cons (.int .u64) (.cons (.int .u64) (.cons (.int .u64) (.cons (.int .u64) (.cons (.int .u64) (.cons (.int .u64) .nil)))))))) .nil))))), .tmp 3 true none]
theorem ok_port_Decode : fnOk Tryd.prog Tryd.f17 ir_port_Decode rd_port_Decode = true := by kernel_rfl
def S_port_Decode : List AV → List Obj → Option (Prop × AV)
  | [.imm (.int .u8) b], [] => some ((b.length ≤ 60000, .tup [.imm (.cons (.int .u64) (.cons (.int .u64) (.cons .str (.cons (.cons (.int .u64) (.cons (.int .u64) (.cons (.int .u64) (.cons (.int .u64) (.cons (.int .u64) (.cons (.int .u64) (.cons (.int .u64) (.cons (.int .u64) .nil)))))))) .nil)))) (dL b), .int .i64 (dE b)]))
  | _, _ => none
theorem snd_port_Decode : SoundS Tryd.prog 17 (RoF S_port_Decode).sum := by
  refine ro_fn Tryd.func17 ok_port_Decode (env_cons (s := RwF S_cursor_New) snd_cursor_New (env_cons (s := RwF S_port_Take) snd_port_Take (env_cons (s := RoF S_cursor_Cursor_Err) snd_cursor_Cursor_Err (env_nil _)))) fun args objs p v e => ?_
  unfold S_port_Decode at e
  split at e
  · rename_i b
    cases e
    refine ⟨rfl, fun hw ho hp => ?_⟩
    change List Int at b
    clear hw ho
    repeat' (intro t ht; first | (cases t <;> first | (cases ht; done) | ((try simp only [Bool.not_eq_eq_eq_not, Bool.not_true, Bool.not_false, Bool.and_eq_true, Bool.and_eq_false_iff, decide_eq_true_eq, decide_eq_false_iff_not] at ht); (try simp only [Int.toNat_natCast, dflt_int] at ht); (try (exfalso; first | contradiction | omega)))) | (refine ht ?_ ?_ <;> clear ht) | (refine ht.1 ?_ ?_ <;> clear ht) | (refine ht ?_; clear ht))
    all_goals first
      | exact True.intro
      | omega
      | ((try simp only [Int.toNat_natCast, dflt_int, decide_eq_true_eq, decide_eq_false_iff_not, Bool.not_eq_eq_eq_not, Bool.not_true, Bool.not_false, Bool.and_eq_true, Bool.and_eq_false_iff, min_i64, max_i64, min_u64, max_u64, min_u32, max_u32, min_u16, max_u16, min_u8, max_u8] at *); omega)
      | exact ⟨by decide, Int.natCast_nonneg _, hp, by decide, rfl⟩
      | exact ⟨rfl, rfl⟩
      | trace_state
  · cases e
def ir_slices_Clone_api_Port_api_Port : IR :=
 (.seq
  (.keep [0]
  (.reg ((⟨(some 2), .nilrow (.cons (.int .u64) (.cons (.int .u64) (.cons .str (.cons (.cons (.int .u64) (.cons (.int .u64) (.cons (.int .u64) (.cons (.int .u64) (.cons (.int .u64) (.cons (.int .u64) (.cons (.int .u64) (.cons (.int .u64) .nil)))))))) .nil)))), none⟩ : IOper) ::
    [])))
  (.seq
   (.seq
    (.reg ((⟨(some 3), .mov (.t 0), none⟩ : IOper) ::
      (⟨(some 4), .isnil false (.t 3), none⟩ : IOper) ::
      []))
    (.cond (.t 4)
     (.seq
      (.reg ((⟨(some 2), .nilrow (.cons (.int .u64) (.cons (.int .u64) (.cons .str (.cons (.cons (.int .u64) (.cons (.int .u64) (.cons (.int .u64) (.cons (.int .u64) (.cons (.int .u64) (.cons (.int .u64) (.cons (.int .u64) (.cons (.int .u64) .nil)))))))) .nil)))), none⟩ : IOper) ::
        []))
      .ret)
     .skip))
   (.seq
    (.reg ((⟨(some 5), .slice0 (.cons (.int .u64) (.cons (.int .u64) (.cons .str (.cons (.cons (.int .u64) (.cons (.int .u64) (.cons (.int .u64) (.cons (.int .u64) (.cons (.int .u64) (.cons (.int .u64) (.cons (.int .u64) (.cons (.int .u64) .nil)))))))) .nil)))), none⟩ : IOper) ::
      (⟨(some 6), .mov (.t 0), none⟩ : IOper) ::
      (⟨(some 7), .append (.cons (.int .u64) (.cons (.int .u64) (.cons .str (.cons (.cons (.int .u64) (.cons (.int .u64) (.cons (.int .u64) (.cons (.int .u64) (.cons (.int .u64) (.cons (.int .u64) (.cons (.int .u64) (.cons (.int .u64) .nil)))))))) .nil)))) 96 (.t 5) (.t 6), none⟩ : IOper) ::
      (⟨(some 2), .mov (.t 7), none⟩ : IOper) ::
      []))
    .ret)))
def rd_slices_Clone_api_Port_api_Port : List RD := [.tmp 2 false none]
theorem ok_slices_Clone_api_Port_api_Port : fnOk Tryd.prog Tryd.f63 ir_slices_Clone_api_Port_api_Port rd_slices_Clone_api_Port_api_Port = true := by kernel_rfl
def S_slices_Clone_api_Port_api_Port : List AV → List Obj → Option (Prop × AV × List Obj)
  | [.imm (.cons (.int .u64) (.cons (.int .u64) (.cons .str (.cons (.cons (.int .u64) (.cons (.int .u64) (.cons (.int .u64) (.cons (.int .u64) (.cons (.int .u64) (.cons (.int .u64) (.cons (.int .u64) (.cons (.int .u64) .nil)))))))) .nil)))) l], [] => some ((l.length ≤ 1000000, .own 0, [.row false (.cons (.int .u64) (.cons (.int .u64) (.cons .str (.cons (.cons (.int .u64) (.cons (.int .u64) (.cons (.int .u64) (.cons (.int .u64) (.cons (.int .u64) (.cons (.int .u64) (.cons (.int .u64) (.cons (.int .u64) .nil)))))))) .nil)))) l]))
  | _, _ => none
theorem snd_slices_Clone_api_Port_api_Port : SoundS Tryd.prog 63 (RwF S_slices_Clone_api_Port_api_Port).sum := by
  refine rw_fn Tryd.func63 ok_slices_Clone_api_Port_api_Port (env_nil _) fun args objs p v o e => ?_
  unfold S_slices_Clone_api_Port_api_Port at e
  split at e
  · rename_i l
    cases e
    refine ⟨rfl, fun hw ho hp => ?_⟩
    repeat' (intro t ht; first | (cases t <;> first | (cases ht; done) | ((try simp only [Bool.not_eq_eq_eq_not, Bool.not_true, Bool.not_false, Bool.and_eq_true, Bool.and_eq_false_iff, decide_eq_true_eq, decide_eq_false_iff_not] at ht); (try simp only [Int.toNat_natCast, dflt_int] at ht); (try (exfalso; first | contradiction | omega)))) | (refine ht ?_ ?_ <;> clear ht) | (refine ht.1 ?_ ?_ <;> clear ht) | (refine ht ?_; clear ht))
    all_goals first
      | exact True.intro
      | (have hl : l = [] := by first | assumption | (apply_assumption; rfl) | simp_all
         subst hl; exact ⟨rfl, rfl⟩)
      | exact ⟨rfl, rfl⟩
      | (simp only [cast_rfl, List.length_nil, Nat.zero_add]; omega)
      | trace_state
  · cases e
def ir_port_Copy : IR :=
 (.seq
  (.keep [0]
  (.reg ((⟨(some 2), .nilrow (.cons (.int .u64) (.cons (.int .u64) (.cons .str (.cons (.cons (.int .u64) (.cons (.int .u64) (.cons (.int .u64) (.cons (.int .u64) (.cons (.int .u64) (.cons (.int .u64) (.cons (.int .u64) (.cons (.int .u64) .nil)))))))) .nil)))), none⟩ : IOper) ::
    [])))
  (.seq
   (.reg ((⟨(some 4), .mov (.t 0), none⟩ : IOper) ::
     (⟨(some 5), .call false (.f 63) [(.t 4)], none⟩ : IOper) ::
     (⟨(some 3), .mov (.t 5), none⟩ : IOper) ::
     []))
   (.seq
    (.reg ((⟨(some 6), .mov (.t 3), none⟩ : IOper) ::
      (⟨(some 2), .mov (.t 6), none⟩ : IOper) ::
      []))
    .ret)))
def rd_port_Copy : List RD := [.tmp 2 false none]
theorem ok_port_Copy : fnOk Tryd.prog Tryd.f36 ir_port_Copy rd_port_Copy = true := by kernel_rfl
def S_port_Copy : List AV → List Obj → Option (Prop × AV × List Obj)
  | [.imm (.cons (.int .u64) (.cons (.int .u64) (.cons .str (.cons (.cons (.int .u64) (.cons (.int .u64) (.cons (.int .u64) (.cons (.int .u64) (.cons (.int .u64) (.cons (.int .u64) (.cons (.int .u64) (.cons (.int .u64) .nil)))))))) .nil)))) l], [] => some ((l.length ≤ 1000000, .own 0, [.row false (.cons (.int .u64) (.cons (.int .u64) (.cons .str (.cons (.cons (.int .u64) (.cons (.int .u64) (.cons (.int .u64) (.cons (.int .u64) (.cons (.int .u64) (.cons (.int .u64) (.cons (.int .u64) (.cons (.int .u64) .nil)))))))) .nil)))) l]))
  | _, _ => none
theorem snd_port_Copy : SoundS Tryd.prog 36 (RwF S_port_Copy).sum := by
  refine rw_fn Tryd.func36 ok_port_Copy (env_cons (s := RwF S_slices_Clone_api_Port_api_Port) snd_slices_Clone_api_Port_api_Port (env_nil _)) fun args objs p v o e => ?_
  unfold S_port_Copy at e
  split at e
  · rename_i l
    cases e
    refine ⟨rfl, fun hw ho hp => ?_⟩
    repeat' (intro t ht; first | (cases t <;> first | (cases ht; done) | ((try simp only [Bool.not_eq_eq_eq_not, Bool.not_true, Bool.not_false, Bool.and_eq_true, Bool.and_eq_false_iff, decide_eq_true_eq, decide_eq_false_iff_not] at ht); (try simp only [Int.toNat_natCast, dflt_int] at ht); (try (exfalso; first | contradiction | omega)))) | (refine ht ?_ ?_ <;> clear ht) | (refine ht.1 ?_ ?_ <;> clear ht) | (refine ht ?_; clear ht))
    all_goals first
      | exact True.intro
      | exact hp
      | exact ⟨rfl, rfl⟩
      | trace_state
  · cases e
end Go.Eng
