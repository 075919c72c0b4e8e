/- Contracts of functions of the given program, told by plain Lean functions. No condition. -/
import Derived.Test.YtcicjbcgnkbffaaDoorProg
import Derived.Test.YtcicjbcgnkbffaaDoorESum
import Derived.KernelRfl
import Derived.Test.YtcicjbcgnkbffaaDoorO2
namespace Go.Eng
open Go.Proofs
set_option linter.unusedVariables false
set_option linter.unusedSimpArgs false
set_option maxRecDepth 100000
set_option maxHeartbeats 1000000
def ir_r08_zeros : IR :=
 (.seq
  (.reg ((⟨(some 2), .mov (.c (.kb false)), none⟩ : IOper) ::
    []))
  (.seq
   (.seq
    (.reg ((⟨(some 3), .mov (.c (.int .i64 0)), none⟩ : IOper) ::
      []))
    (.block 0
     (.loop
      (.seq
       (.seq
        (.reg ((⟨(some 4), .mov (.t 3), none⟩ : IOper) ::
          (⟨(some 5), .mov (.t 0), none⟩ : IOper) ::
          (⟨(some 6), .len (.t 5), none⟩ : IOper) ::
          (⟨(some 7), .bin .lss (.t 4) (.t 6), none⟩ : IOper) ::
          []))
        (.cond (.t 7)
         .skip
         (.exit 0)))
       (.seq
        (.block 1
         (.seq
          (.reg ((⟨(some 10), .mov (.t 0), none⟩ : IOper) ::
            (⟨(some 11), .mov (.t 3), none⟩ : IOper) ::
            (⟨(some 12), .indexSl 1 (.t 10) (.t 11), none⟩ : IOper) ::
            (⟨(some 13), .load none (.t 12), none⟩ : IOper) ::
            (⟨(some 14), .bin .neq (.t 13) (.c (.int .u8 0)), none⟩ : IOper) ::
            []))
          (.cond (.t 14)
           (.seq
            (.reg ((⟨(some 2), .mov (.c (.kb false)), none⟩ : IOper) ::
              []))
            .ret)
           .skip)))
        (.reg ((⟨(some 8), .mov (.t 3), none⟩ : IOper) ::
          (⟨(some 9), .bin .add (.t 8) (.c (.int .i64 1)), none⟩ : IOper) ::
          (⟨(some 3), .mov (.t 9), none⟩ : IOper) ::
          [])))))))
   (.seq
    (.reg ((⟨(some 2), .mov (.c (.kb true)), none⟩ : IOper) ::
      []))
    .ret)))
def rd_r08_zeros : List RD := [.tmp 2 true none]
theorem ok_r08_zeros : fnOk Tryd.prog Tryd.f51 ir_r08_zeros rd_r08_zeros = true := by kernel_rfl
def S_r08_zeros : List AV → List Obj → Option (Prop × AV)
  | [.imm (.int .u8) b], [] => some ((True, .bool (zeroL b)))
  | _, _ => none
theorem snd_r08_zeros : SoundS Tryd.prog 51 (RoF S_r08_zeros).sum := by
  refine ro_fn Tryd.func51 ok_r08_zeros (env_nil _) fun args objs p v e => ?_
  unfold S_r08_zeros at e
  split at e
  · rename_i b
    cases e
    refine ⟨rfl, fun hw ho hp => ?_⟩
    change List Int at b
    have hl : b.length ≤ maxLen := (hw (.imm (.int .u8) b) (by simp)).2
    unfold maxLen at hl
    repeat' (intro t ht; first | (cases t <;> first | (cases ht; done) | ((try simp only [Bool.not_eq_eq_eq_not, Bool.not_true, Bool.not_false, Bool.and_eq_true, Bool.and_eq_false_iff, decide_eq_true_eq, decide_eq_false_iff_not] at ht); (try simp only [Int.toNat_natCast, dflt_int] at ht))) | (refine ht ?_ ?_ <;> clear ht) | (refine ht.1 ?_ ?_ <;> clear ht) | (refine ht ?_; clear ht))
    all_goals first
      | (intro r h1 h2; refine h2 ⟨[0, 3], Nat, (fun i => i ≤ b.length ∧ zeroL b = zeroL (b.drop i)), fun i => [.imm (.int .u8) b, .int .i64 i], fun _ => [], fun i => b.length - i, ⟨0, ⟨Nat.zero_le _, rfl⟩, rfl, rfl⟩, ?_⟩; clear h1 h2)
    rintro i ⟨hi, he⟩
    repeat' (intro t ht; first | (cases t <;> first | (cases ht; done) | ((try simp only [Bool.not_eq_eq_eq_not, Bool.not_true, Bool.not_false, Bool.and_eq_true, Bool.and_eq_false_iff, decide_eq_true_eq, decide_eq_false_iff_not] at ht); (try simp only [Int.toNat_natCast, dflt_int] at ht))) | (refine ht ?_ ?_ <;> clear ht) | (refine ht.1 ?_ ?_ <;> clear ht) | (refine ht ?_; clear ht))
    all_goals first
      | ((try simp only [Int.toNat_natCast, dflt_int, decide_eq_true_eq, decide_eq_false_iff_not, Bool.not_eq_eq_eq_not, Bool.not_true, Bool.not_false, Bool.and_eq_true, Bool.and_eq_false_iff, min_i64, max_i64, min_u64, max_u64, min_u32, max_u32, min_u16, max_u16, min_u8, max_u8] at *); omega)
      | (have hge : b.length ≤ i := by omega
         refine ⟨?_, rfl⟩; rw [he, List.drop_of_length_le hge]; rfl)
      | (have hlt : i < b.length := by omega
         rw [drop_step hlt 0] at he
         unfold zeroL at he
         rw [List.all_cons] at he
         first
           | (have hk : decide (b.getD i 0 = 0) = false := decide_eq_false (by assumption)
              refine ⟨?_, rfl⟩; unfold zeroL; rw [he, hk]; rfl)
           | (have hk : decide (b.getD i 0 = 0) = true := decide_eq_true (by assumption)
              rw [hk, Bool.true_and] at he
              exact ⟨i + 1, ⟨hlt, he⟩, by (try simp only [Int.toNat_natCast, dflt_int, decide_eq_true_eq, decide_eq_false_iff_not, Bool.not_eq_eq_eq_not, Bool.not_true, Bool.not_false, Bool.and_eq_true, Bool.and_eq_false_iff, min_i64, max_i64, min_u64, max_u64, min_u32, max_u32, min_u16, max_u16, min_u8, max_u8] at *); omega, rfl, rfl⟩))
      | trace_state
  · cases e
def inA : List Int → List Int → Bool
  | x :: r, y :: l => if bitop .and .u8 x y = x then inA r l else false
  | _, _ => true
def ir_r08_inside : IR :=
 (.seq
  (.reg ((⟨(some 4), .mov (.c (.kb false)), none⟩ : IOper) ::
    []))
  (.seq
   (.seq
    (.reg ((⟨(some 5), .mov (.c (.int .i64 0)), none⟩ : IOper) ::
      []))
    (.block 0
     (.loop
      (.seq
       (.seq
        (.reg ((⟨(some 6), .mov (.t 5), none⟩ : IOper) ::
          (⟨(some 7), .mov (.t 0), none⟩ : IOper) ::
          (⟨(some 8), .len (.t 7), none⟩ : IOper) ::
          (⟨(some 9), .bin .lss (.t 6) (.t 8), none⟩ : IOper) ::
          []))
        (.cond (.t 9)
         .skip
         (.exit 0)))
       (.seq
        (.block 1
         (.seq
          (.regD (((⟨(some 12), .mov (.t 0), none⟩, []) : IOper × List Nat) ::
            ((⟨(some 13), .mov (.t 5), none⟩, [0]) : IOper × List Nat) ::
            ((⟨(some 14), .indexSl 1 (.t 12) (.t 13), none⟩, []) : IOper × List Nat) ::
            ((⟨(some 15), .load none (.t 14), none⟩, []) : IOper × List Nat) ::
            ((⟨(some 16), .mov (.t 1), none⟩, [0, 1, 2, 3]) : IOper × List Nat) ::
            ((⟨(some 17), .mov (.t 5), none⟩, [0, 1, 2, 3, 4]) : IOper × List Nat) ::
            ((⟨(some 18), .indexSl 1 (.t 16) (.t 17), none⟩, [0, 1, 2, 3]) : IOper × List Nat) ::
            ((⟨(some 19), .load none (.t 18), none⟩, [0, 1, 2, 3]) : IOper × List Nat) ::
            ((⟨(some 20), .bin .and (.t 15) (.t 19), none⟩, []) : IOper × List Nat) ::
            ((⟨(some 21), .mov (.t 0), none⟩, [0, 1, 2, 3, 4, 5, 6, 7, 8]) : IOper × List Nat) ::
            ((⟨(some 22), .mov (.t 5), none⟩, [0, 1, 2, 3, 4, 5, 6, 7, 8, 9]) : IOper × List Nat) ::
            ((⟨(some 23), .indexSl 1 (.t 21) (.t 22), none⟩, [0, 1, 2, 3, 4, 5, 6, 7, 8]) : IOper × List Nat) ::
            ((⟨(some 24), .load none (.t 23), none⟩, [0, 1, 2, 3, 4, 5, 6, 7, 8]) : IOper × List Nat) ::
            ((⟨(some 25), .bin .neq (.t 20) (.t 24), none⟩, []) : IOper × List Nat) ::
            []))
          (.cond (.t 25)
           (.seq
            (.reg ((⟨(some 4), .mov (.c (.kb false)), none⟩ : IOper) ::
              []))
            .ret)
           .skip)))
        (.reg ((⟨(some 10), .mov (.t 5), none⟩ : IOper) ::
          (⟨(some 11), .bin .add (.t 10) (.c (.int .i64 1)), none⟩ : IOper) ::
          (⟨(some 5), .mov (.t 11), none⟩ : IOper) ::
          [])))))))
   (.seq
    (.reg ((⟨(some 4), .mov (.c (.kb true)), none⟩ : IOper) ::
      []))
    .ret)))
def rd_r08_inside : List RD := [.tmp 4 true none]
theorem ok_r08_inside : fnOk Tryd.prog Tryd.f53 ir_r08_inside rd_r08_inside = true := by kernel_rfl
def S_r08_inside : List AV → List Obj → Option (Prop × AV)
  | [.imm (.int .u8) v, .imm (.int .u8) m], [] => some ((v.length ≤ m.length, .bool (inA v m)))
  | _, _ => none
theorem snd_r08_inside : SoundS Tryd.prog 53 (RoF S_r08_inside).sum := by
  refine ro_fn Tryd.func53 ok_r08_inside (env_nil _) fun args objs p v e => ?_
  unfold S_r08_inside at e
  split at e
  · rename_i v m
    cases e
    refine ⟨rfl, fun hw ho hp => ?_⟩
    change List Int at v
    change List Int at m
    have hl : m.length ≤ maxLen := (hw (.imm (.int .u8) m) (by simp)).2
    unfold maxLen at hl
    repeat' (intro t ht; first | (cases t <;> first | (cases ht; done) | ((try simp only [Bool.not_eq_eq_eq_not, Bool.not_true, Bool.not_false, Bool.and_eq_true, Bool.and_eq_false_iff, decide_eq_true_eq, decide_eq_false_iff_not] at ht); (try simp only [Int.toNat_natCast, dflt_int] at ht))) | (refine ht ?_ ?_ <;> clear ht) | (refine ht.1 ?_ ?_ <;> clear ht) | (refine ht ?_; clear ht))
    all_goals first
      | (intro r h1 h2; refine h2 ⟨[0, 1, 5], Nat, (fun i => i ≤ v.length ∧ inA v m = inA (v.drop i) (m.drop i)), fun i => [.imm (.int .u8) v, .imm (.int .u8) m, .int .i64 i], fun _ => [], fun i => v.length - i, ⟨0, ⟨Nat.zero_le _, rfl⟩, rfl, rfl⟩, ?_⟩; clear h1 h2)
    rintro i ⟨hi, he⟩
    repeat' (intro t ht; first | (cases t <;> first | (cases ht; done) | ((try simp only [Bool.not_eq_eq_eq_not, Bool.not_true, Bool.not_false, Bool.and_eq_true, Bool.and_eq_false_iff, decide_eq_true_eq, decide_eq_false_iff_not] at ht); (try simp only [Int.toNat_natCast, dflt_int] at ht))) | (refine ht ?_ ?_ <;> clear ht) | (refine ht.1 ?_ ?_ <;> clear ht) | (refine ht ?_; clear ht))
    all_goals first
      | ((try simp only [Int.toNat_natCast, dflt_int, decide_eq_true_eq, decide_eq_false_iff_not, Bool.not_eq_eq_eq_not, Bool.not_true, Bool.not_false, Bool.and_eq_true, Bool.and_eq_false_iff, min_i64, max_i64, min_u64, max_u64, min_u32, max_u32, min_u16, max_u16, min_u8, max_u8] at *); omega)
      | (have h0 : v.drop i = [] := List.drop_of_length_le (by omega)
         refine ⟨?_, rfl⟩; rw [he, h0]; rfl)
      | (have hlt : i < v.length := by omega
         have hlm : i < m.length := by omega
         rw [drop_step hlt 0, drop_step hlm 0] at he
         first
           | (have hx : bitop .and .u8 (v.getD i 0) (m.getD i 0) = v.getD i 0 := by assumption
              have h1 : inA (v.getD i 0 :: v.drop (i + 1)) (m.getD i 0 :: m.drop (i + 1)) = inA (v.drop (i + 1)) (m.drop (i + 1)) := if_pos hx
              exact ⟨i + 1, ⟨hlt, by rw [he, h1]⟩, by dsimp only; omega, rfl, rfl⟩)
           | (have hx : ¬ bitop .and .u8 (v.getD i 0) (m.getD i 0) = v.getD i 0 := by assumption
              have h1 : inA (v.getD i 0 :: v.drop (i + 1)) (m.getD i 0 :: m.drop (i + 1)) = false := if_neg hx
              refine ⟨?_, rfl⟩; rw [he, h1]))
      | trace_state
  · cases e
def refO (b : List Int) : Nat → Int → Bool
  | 0, _ => true
  | f + 1, i => if bitop .and .u8 ((b.getD (b.length - 1 - i.tdiv 8 : Int).toNat 0).fdiv (2 ^ (min (i.tmod 8).toNat 8))) 1 = 0 then false else refO b f (i + 1)
theorem refO_f {b : List Int} {f : Nat} {i : Int} (h : bitop .and .u8 ((b.getD (b.length - 1 - i.tdiv 8 : Int).toNat 0).fdiv (2 ^ (min (i.tmod 8).toNat 8))) 1 = 0) : refO b (f + 1) i = false := if_pos h
theorem refO_t {b : List Int} {f : Nat} {i : Int} (h : ¬ bitop .and .u8 ((b.getD (b.length - 1 - i.tdiv 8 : Int).toNat 0).fdiv (2 ^ (min (i.tmod 8).toNat 8))) 1 = 0) : refO b (f + 1) i = refO b f (i + 1) := if_neg h
def ir_r08_ones : IR :=
 (.seq
  (.reg ((⟨(some 4), .mov (.c (.kb false)), none⟩ : IOper) ::
    []))
  (.seq
   (.seq
    (.reg ((⟨(some 5), .mov (.c (.int .i64 0)), none⟩ : IOper) ::
      []))
    (.block 0
     (.loop
      (.seq
       (.seq
        (.reg ((⟨(some 6), .mov (.t 5), none⟩ : IOper) ::
          (⟨(some 7), .mov (.t 1), none⟩ : IOper) ::
          (⟨(some 8), .bin .lss (.t 6) (.t 7), none⟩ : IOper) ::
          []))
        (.cond (.t 8)
         .skip
         (.exit 0)))
       (.seq
        (.block 1
         (.seq
          (.reg ((⟨(some 11), .mov (.t 0), none⟩ : IOper) ::
            (⟨(some 12), .mov (.t 0), none⟩ : IOper) ::
            (⟨(some 13), .len (.t 12), none⟩ : IOper) ::
            (⟨(some 14), .bin .sub (.t 13) (.c (.int .i64 1)), none⟩ : IOper) ::
            (⟨(some 15), .mov (.t 5), none⟩ : IOper) ::
            (⟨(some 16), .bin .quo (.t 15) (.c (.int .i64 8)), none⟩ : IOper) ::
            (⟨(some 17), .bin .sub (.t 14) (.t 16), none⟩ : IOper) ::
            (⟨(some 18), .indexSl 1 (.t 11) (.t 17), none⟩ : IOper) ::
            (⟨(some 19), .load none (.t 18), none⟩ : IOper) ::
            (⟨(some 20), .mov (.t 5), none⟩ : IOper) ::
            (⟨(some 21), .bin .rem (.t 20) (.c (.int .i64 8)), none⟩ : IOper) ::
            (⟨(some 22), .bin .shr (.t 19) (.t 21), none⟩ : IOper) ::
            (⟨(some 23), .bin .and (.t 22) (.c (.int .u8 1)), none⟩ : IOper) ::
            (⟨(some 24), .bin .eql (.t 23) (.c (.int .u8 0)), none⟩ : IOper) ::
            []))
          (.cond (.t 24)
           (.seq
            (.reg ((⟨(some 4), .mov (.c (.kb false)), none⟩ : IOper) ::
              []))
            .ret)
           .skip)))
        (.reg ((⟨(some 9), .mov (.t 5), none⟩ : IOper) ::
          (⟨(some 10), .bin .add (.t 9) (.c (.int .i64 1)), none⟩ : IOper) ::
          (⟨(some 5), .mov (.t 10), none⟩ : IOper) ::
          [])))))))
   (.seq
    (.reg ((⟨(some 4), .mov (.c (.kb true)), none⟩ : IOper) ::
      []))
    .ret)))
def rd_r08_ones : List RD := [.tmp 4 true none]
theorem ok_r08_ones : fnOk Tryd.prog Tryd.f52 ir_r08_ones rd_r08_ones = true := by kernel_rfl
def S_r08_ones : List AV → List Obj → Option (Prop × AV)
  | [.imm (.int .u8) b, .int .i64 n], [] => some ((0 ≤ n ∧ n ≤ 8 * b.length ∧ b.length ≤ 1000000, .bool (refO b n.toNat 0)))
  | _, _ => none
theorem snd_r08_ones : SoundS Tryd.prog 52 (RoF S_r08_ones).sum := by
  refine ro_fn Tryd.func52 ok_r08_ones (env_nil _) fun args objs p v e => ?_
  unfold S_r08_ones at e
  split at e
  · rename_i b n
    cases e
    refine ⟨rfl, fun hw ho hp => ?_⟩
    change List Int at b
    repeat' (intro t ht; first | (cases t <;> first | (cases ht; done) | ((try simp only [Bool.not_eq_eq_eq_not, Bool.not_true, Bool.not_false, Bool.and_eq_true, Bool.and_eq_false_iff, decide_eq_true_eq, decide_eq_false_iff_not] at ht); (try simp only [Int.toNat_natCast, dflt_int] at ht))) | (refine ht ?_ ?_ <;> clear ht) | (refine ht.1 ?_ ?_ <;> clear ht) | (refine ht ?_; clear ht))
    all_goals first
      | (intro r h1 h2; refine h2 ⟨[0, 1, 5], Nat, (fun i => (i : Int) ≤ n ∧ refO b n.toNat 0 = refO b (n.toNat - i) i), fun i => [.imm (.int .u8) b, .int .i64 n, .int .i64 i], fun _ => [], fun i => n.toNat - i, ⟨0, ⟨hp.1, rfl⟩, rfl, rfl⟩, ?_⟩; clear h1 h2)
    rintro i ⟨hi, he⟩
    have htd : (i : Int).tdiv 8 = i / 8 := tdiv_nn (by omega)
    have htm : (i : Int).tmod 8 = i % 8 := tmod_nn (by omega)
    repeat' (intro t ht; first | (cases t <;> first | (cases ht; done) | ((try simp only [Bool.not_eq_eq_eq_not, Bool.not_true, Bool.not_false, Bool.and_eq_true, Bool.and_eq_false_iff, decide_eq_true_eq, decide_eq_false_iff_not] at ht); (try simp only [Int.toNat_natCast, dflt_int] at ht))) | (refine ht ?_ ?_ <;> clear ht) | (refine ht.1 ?_ ?_ <;> clear ht) | (refine ht ?_; clear ht))
    all_goals first
      | exact (by decide)
      | ((try simp only [Int.toNat_natCast, dflt_int, decide_eq_true_eq, decide_eq_false_iff_not, Bool.not_eq_eq_eq_not, Bool.not_true, Bool.not_false, Bool.and_eq_true, Bool.and_eq_false_iff, min_i64, max_i64, min_u64, max_u64, min_u32, max_u32, min_u16, max_u16, min_u8, max_u8] at *); omega)
      | ((try simp only [Int.toNat_natCast, dflt_int, decide_eq_true_eq, decide_eq_false_iff_not, Bool.not_eq_eq_eq_not, Bool.not_true, Bool.not_false, Bool.and_eq_true, Bool.and_eq_false_iff, min_i64, max_i64, min_u64, max_u64, min_u32, max_u32, min_u16, max_u16, min_u8, max_u8] at *); simp only [htd, htm]; omega)
      | (have h0 : n.toNat - i = 0 := by omega
         refine ⟨?_, rfl⟩; rw [he, h0]; rfl)
      | (have h1 : n.toNat - i = (n.toNat - (i + 1)) + 1 := by omega
         rw [h1] at he
         first
           | (have hf := refO_f (f := n.toNat - (i + 1)) (b := b) (i := i) (by assumption)
              refine ⟨?_, rfl⟩; rw [he, hf])
           | (have hf := refO_t (f := n.toNat - (i + 1)) (b := b) (i := i) (by assumption)
              exact ⟨i + 1, ⟨by omega, by rw [he, hf]; rfl⟩, by dsimp only; omega, rfl, rfl⟩))
      | trace_state
  · cases e
end Go.Eng
