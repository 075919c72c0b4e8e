/- Contracts of functions of the given program, told by plain Lean functions. No condition. -/
import Derived.Test.YtgljcfbcdniffaaDoorProg
import Derived.Test.YtgljcfbcdniffaaDoorESum
import Derived.KernelRfl
import Derived.Test.YtgljcfbcdniffaaDoorP2
namespace Go.Eng
open Go.Proofs
set_option linter.unusedVariables false
set_option linter.unusedSimpArgs false
set_option maxRecDepth 100000
set_option maxHeartbeats 1000000
theorem and_low {y : Int} (h0 : 0 ≤ y) (h : y < 4294967296) : bitop .and .u64 y 4294967295 = y := by
  obtain ⟨n, rfl⟩ := Int.eq_ofNat_of_zero_le h0
  have hn : n < 2 ^ 32 := by omega
  show IntKind.u64.wrap ((BitVec.ofInt 64 (n : Int) &&& BitVec.ofInt 64 4294967295).toNat : Int) = _
  have e1 : (BitVec.ofInt 64 (n : Int)).toNat = n := by
    rw [BitVec.ofInt_natCast, BitVec.toNat_ofNat]; exact Nat.mod_eq_of_lt (by omega)
  have e2 : (BitVec.ofInt 64 4294967295).toNat = 2 ^ 32 - 1 := by decide
  rw [BitVec.toNat_and, e1, e2, Nat.and_two_pow_sub_one_eq_mod, Nat.mod_eq_of_lt hn, wrap_id ⟨by rw [min_u64]; omega, by rw [max_u64]; omega⟩]
def ir_math_bits_Mul64 : IR :=
 (.seq
  (.keep [0, 1]
  (.reg ((⟨(some 4), .mov (.c (.int .u64 0)), none⟩ : IOper) ::
    (⟨(some 5), .mov (.c (.int .u64 0)), none⟩ : IOper) ::
    [])))
  (.seq
   (.reg ((⟨(some 14), .mov (.t 0), none⟩ : IOper) ::
     (⟨(some 15), .bin .and (.t 14) (.c (.int .u64 4294967295)), none⟩ : IOper) ::
     (⟨(some 6), .mov (.t 15), none⟩ : IOper) ::
     []))
   (.seq
    (.reg ((⟨(some 16), .mov (.t 0), none⟩ : IOper) ::
      (⟨(some 17), .bin .shr (.t 16) (.c (.int .u64 32)), none⟩ : IOper) ::
      (⟨(some 7), .mov (.t 17), none⟩ : IOper) ::
      []))
    (.seq
     (.keep [0, 1, 6, 7]
     (.reg ((⟨(some 18), .mov (.t 1), none⟩ : IOper) ::
       (⟨(some 19), .bin .and (.t 18) (.c (.int .u64 4294967295)), none⟩ : IOper) ::
       (⟨(some 8), .mov (.t 19), none⟩ : IOper) ::
       [])))
     (.seq
      (.reg ((⟨(some 20), .mov (.t 1), none⟩ : IOper) ::
        (⟨(some 21), .bin .shr (.t 20) (.c (.int .u64 32)), none⟩ : IOper) ::
        (⟨(some 9), .mov (.t 21), none⟩ : IOper) ::
        []))
      (.seq
       (.reg ((⟨(some 22), .mov (.t 6), none⟩ : IOper) ::
         (⟨(some 23), .mov (.t 8), none⟩ : IOper) ::
         (⟨(some 24), .bin .mul (.t 22) (.t 23), none⟩ : IOper) ::
         (⟨(some 10), .mov (.t 24), none⟩ : IOper) ::
         []))
       (.seq
        (.keep [0, 1, 6, 7, 8, 9, 10]
        (.reg ((⟨(some 25), .mov (.t 7), none⟩ : IOper) ::
          (⟨(some 26), .mov (.t 8), none⟩ : IOper) ::
          (⟨(some 27), .bin .mul (.t 25) (.t 26), none⟩ : IOper) ::
          (⟨(some 28), .mov (.t 10), none⟩ : IOper) ::
          (⟨(some 29), .bin .shr (.t 28) (.c (.int .u64 32)), none⟩ : IOper) ::
          (⟨(some 30), .bin .add (.t 27) (.t 29), none⟩ : IOper) ::
          (⟨(some 11), .mov (.t 30), none⟩ : IOper) ::
          [])))
        (.seq
         (.keep [0, 1, 6, 7, 9, 11]
         (.reg ((⟨(some 31), .mov (.t 11), none⟩ : IOper) ::
           (⟨(some 32), .bin .and (.t 31) (.c (.int .u64 4294967295)), none⟩ : IOper) ::
           (⟨(some 12), .mov (.t 32), none⟩ : IOper) ::
           [])))
         (.seq
          (.reg ((⟨(some 33), .mov (.t 11), none⟩ : IOper) ::
            (⟨(some 34), .bin .shr (.t 33) (.c (.int .u64 32)), none⟩ : IOper) ::
            (⟨(some 13), .mov (.t 34), none⟩ : IOper) ::
            []))
          (.seq
           (.keep [0, 1, 6, 7, 9, 12, 13]
           (.reg ((⟨(some 35), .mov (.t 12), none⟩ : IOper) ::
             (⟨(some 36), .mov (.t 6), none⟩ : IOper) ::
             (⟨(some 37), .mov (.t 9), none⟩ : IOper) ::
             (⟨(some 38), .bin .mul (.t 36) (.t 37), none⟩ : IOper) ::
             (⟨(some 39), .bin .add (.t 35) (.t 38), none⟩ : IOper) ::
             (⟨(some 12), .mov (.t 39), none⟩ : IOper) ::
             [])))
           (.seq
            (.keep [0, 1, 7, 9, 12, 13]
            (.reg ((⟨(some 40), .mov (.t 7), none⟩ : IOper) ::
              (⟨(some 41), .mov (.t 9), none⟩ : IOper) ::
              (⟨(some 42), .bin .mul (.t 40) (.t 41), none⟩ : IOper) ::
              (⟨(some 43), .mov (.t 13), none⟩ : IOper) ::
              (⟨(some 44), .bin .add (.t 42) (.t 43), none⟩ : IOper) ::
              (⟨(some 45), .mov (.t 12), none⟩ : IOper) ::
              (⟨(some 46), .bin .shr (.t 45) (.c (.int .u64 32)), none⟩ : IOper) ::
              (⟨(some 47), .bin .add (.t 44) (.t 46), none⟩ : IOper) ::
              (⟨(some 4), .mov (.t 47), none⟩ : IOper) ::
              [])))
            (.seq
             (.keep [0, 1, 4]
             (.reg ((⟨(some 48), .mov (.t 0), none⟩ : IOper) ::
               (⟨(some 49), .mov (.t 1), none⟩ : IOper) ::
               (⟨(some 50), .bin .mul (.t 48) (.t 49), none⟩ : IOper) ::
               (⟨(some 5), .mov (.t 50), none⟩ : IOper) ::
               [])))
             .ret))))))))))))
def rd_math_bits_Mul64 : List RD := [.tmp 4 true none, .tmp 5 true none]
theorem ok_math_bits_Mul64 : fnOk Tryd.prog Tryd.f170 ir_math_bits_Mul64 rd_math_bits_Mul64 = true := by kernel_rfl
def S_math_bits_Mul64 : List AV → List Obj → Option (Prop × AV)
  | [.int .u64 x, .int .u64 y], [] => some ((x = 1 ∧ 0 ≤ y ∧ y < 4294967296, .tup [.int .u64 0, .int .u64 y]))
  | _, _ => none
theorem snd_math_bits_Mul64 : SoundS Tryd.prog 170 (RoF S_math_bits_Mul64).sum := by
  refine ro_fn Tryd.func170 ok_math_bits_Mul64 (env_nil _) fun args objs p v e => ?_
  unfold S_math_bits_Mul64 at e
  split at e
  · rename_i x y
    cases e
    refine ⟨rfl, fun hw ho hp => ?_⟩
    obtain ⟨rfl, h0, h1⟩ := hp
    have ha := and_low h0 h1
    have hb : bitop .and .u64 1 4294967295 = 1 := by decide
    have hc : bitop .and .u64 0 4294967295 = 0 := by decide
    have hd : (1 : Int).fdiv (2 ^ min (Int.toNat 32) IntKind.u64.bits) = 0 := by decide
    have he : y.fdiv (2 ^ min (Int.toNat 32) IntKind.u64.bits) = 0 := by
      show y.fdiv (2 ^ 32) = 0
      rw [Int.fdiv_eq_ediv_of_nonneg _ (by decide)]; exact Int.ediv_eq_zero_of_lt h0 h1
    have hf : (0 : Int).fdiv (2 ^ min (Int.toNat 32) IntKind.u64.bits) = 0 := by decide
    repeat' (intro t ht; first | (cases t <;> first | (cases ht; done) | ((try simp only [Bool.not_eq_eq_eq_not, Bool.not_true, Bool.not_false, Bool.and_eq_true, Bool.and_eq_false_iff, decide_eq_true_eq, decide_eq_false_iff_not] at ht); (try simp only [Int.toNat_natCast, dflt_int] at ht))) | (refine ht ?_ ?_ <;> clear ht) | (refine ht.1 ?_ ?_ <;> clear ht) | (refine ht ?_; clear ht))
    all_goals (try simp only [ha, hb, hc, hd, he, hf, Int.one_mul, Int.zero_mul, Int.mul_zero, Int.add_zero, Int.zero_add])
    all_goals first
      | exact True.intro
      | exact ⟨True.intro, True.intro⟩
      | exact ⟨rfl, rfl⟩
      | ((try simp only [Int.toNat_natCast, dflt_int, decide_eq_true_eq, decide_eq_false_iff_not, Bool.not_eq_eq_eq_not, Bool.not_true, Bool.not_false, Bool.and_eq_true, Bool.and_eq_false_iff, min_i64, max_i64, min_u64, max_u64, min_u32, max_u32, min_u16, max_u16, min_u8, max_u8] at *); omega)
      | trace_state
  · cases e
def ir_math_bits_Mul : IR :=
 (.seq
  (.keep [0, 1]
  (.reg ((⟨(some 4), .mov (.c (.int .u64 0)), none⟩ : IOper) ::
    (⟨(some 5), .mov (.c (.int .u64 0)), none⟩ : IOper) ::
    [])))
  (.seq
   (.cond (.c (.kb false))
    (.seq
     (.keep [0, 1]
     (.reg ((⟨(some 11), .mov (.t 0), none⟩ : IOper) ::
       (⟨(some 12), .conv .u32 (.t 11), none⟩ : IOper) ::
       (⟨(some 13), .mov (.t 1), none⟩ : IOper) ::
       (⟨(some 14), .conv .u32 (.t 13), none⟩ : IOper) ::
       (⟨(some 15), .call false (.f 169) [(.t 12), (.t 14)], none⟩ : IOper) ::
       (⟨(some 10), .mov (.t 15), none⟩ : IOper) ::
       (⟨(some 16), .extract (.t 10) 0, none⟩ : IOper) ::
       (⟨(some 17), .extract (.t 10) 1, none⟩ : IOper) ::
       (⟨(some 6), .mov (.t 16), none⟩ : IOper) ::
       (⟨(some 7), .mov (.t 17), none⟩ : IOper) ::
       [])))
     (.seq
      (.keep [6, 7]
      (.reg ((⟨(some 18), .mov (.t 6), none⟩ : IOper) ::
        (⟨(some 19), .conv .u64 (.t 18), none⟩ : IOper) ::
        (⟨(some 20), .mov (.t 7), none⟩ : IOper) ::
        (⟨(some 21), .conv .u64 (.t 20), none⟩ : IOper) ::
        (⟨(some 4), .mov (.t 19), none⟩ : IOper) ::
        (⟨(some 5), .mov (.t 21), none⟩ : IOper) ::
        [])))
      .ret))
    .skip)
   (.seq
    (.keep [0, 1]
    (.reg ((⟨(some 23), .mov (.t 0), none⟩ : IOper) ::
      (⟨(some 24), .mov (.t 1), none⟩ : IOper) ::
      (⟨(some 25), .call false (.f 170) [(.t 23), (.t 24)], none⟩ : IOper) ::
      (⟨(some 22), .mov (.t 25), none⟩ : IOper) ::
      (⟨(some 26), .extract (.t 22) 0, none⟩ : IOper) ::
      (⟨(some 27), .extract (.t 22) 1, none⟩ : IOper) ::
      (⟨(some 8), .mov (.t 26), none⟩ : IOper) ::
      (⟨(some 9), .mov (.t 27), none⟩ : IOper) ::
      [])))
    (.seq
     (.keep [8, 9]
     (.reg ((⟨(some 28), .mov (.t 8), none⟩ : IOper) ::
       (⟨(some 29), .mov (.t 9), none⟩ : IOper) ::
       (⟨(some 4), .mov (.t 28), none⟩ : IOper) ::
       (⟨(some 5), .mov (.t 29), none⟩ : IOper) ::
       [])))
     .ret))))
def rd_math_bits_Mul : List RD := [.tmp 4 true none, .tmp 5 true none]
theorem ok_math_bits_Mul : fnOk Tryd.prog Tryd.f157 ir_math_bits_Mul rd_math_bits_Mul = true := by kernel_rfl
def S_math_bits_Mul : List AV → List Obj → Option (Prop × AV)
  | [.int .u64 x, .int .u64 y], [] => some ((x = 1 ∧ 0 ≤ y ∧ y < 4294967296, .tup [.int .u64 0, .int .u64 y]))
  | _, _ => none
theorem snd_math_bits_Mul : SoundS Tryd.prog 157 (RoF S_math_bits_Mul).sum := by
  refine ro_fn Tryd.func157 ok_math_bits_Mul (env_cons (s := RoF S_math_bits_Mul64) snd_math_bits_Mul64 (env_nil _)) fun args objs p v e => ?_
  unfold S_math_bits_Mul at e
  split at e
  · rename_i x y
    cases e
    refine ⟨rfl, fun hw ho hp => ?_⟩
    repeat' (intro t ht; first | (cases t <;> first | (cases ht; done) | ((try simp only [Bool.not_eq_eq_eq_not, Bool.not_true, Bool.not_false, Bool.and_eq_true, Bool.and_eq_false_iff, decide_eq_true_eq, decide_eq_false_iff_not] at ht); (try simp only [Int.toNat_natCast, dflt_int] at ht); (try (exfalso; first | contradiction | omega)))) | (refine ht ?_ ?_ <;> clear ht) | (refine ht.1 ?_ ?_ <;> clear ht) | (refine ht ?_; clear ht))
    all_goals first
      | exact True.intro
      | exact hp
      | exact ⟨rfl, rfl⟩
      | trace_state
  · cases e
theorem rep_step {a : Int} {N k : Nat} (h1 : 1 ≤ k) (h2 : k ≤ N) : (List.replicate k a ++ List.replicate (N - k) (0 : Int)).take k ++ (List.replicate k a).take (N - k) ++ (List.replicate k a ++ List.replicate (N - k) (0 : Int)).drop (k + min k (N - k)) = List.replicate (k + min k (N - k)) a ++ List.replicate (N - (k + min k (N - k))) 0 := by
  have e1 : (List.replicate k a ++ List.replicate (N - k) (0 : Int)).take k = List.replicate k a := List.take_left' (by simp)
  have e2 : (List.replicate k a).take (N - k) = List.replicate (min k (N - k)) a := by rw [List.take_replicate, Nat.min_comm]
  have e3 : (List.replicate k a ++ List.replicate (N - k) (0 : Int)).drop (k + min k (N - k)) = List.replicate (N - (k + min k (N - k))) 0 := by
    rw [List.drop_append, List.drop_of_length_le (by simp), List.nil_append, List.length_replicate, List.drop_replicate]; congr 1; omega
  rw [e1, e2, e3, List.replicate_append_replicate]
def ir_slices_Repeat_int_int : IR :=
 (.seq
  (.keep [0, 1]
  (.reg ((⟨(some 4), .mov (.c (.imm (.int .i64) [])), none⟩ : IOper) ::
    [])))
  (.seq
   (.seq
    (.reg ((⟨(some 9), .mov (.t 1), none⟩ : IOper) ::
      (⟨(some 10), .bin .lss (.t 9) (.c (.int .i64 0)), none⟩ : IOper) ::
      []))
    (.cond (.t 10)
     (.reg ((⟨(some 11), .bad, none⟩ : IOper) ::
       (⟨none, .bad, none⟩ : IOper) ::
       []))
     .skip))
   (.seq
    (.keep [0, 1]
    (.reg ((⟨(some 13), .mov (.t 0), none⟩ : IOper) ::
      (⟨(some 14), .len (.t 13), none⟩ : IOper) ::
      (⟨(some 15), .conv .u64 (.t 14), none⟩ : IOper) ::
      (⟨(some 16), .mov (.t 1), none⟩ : IOper) ::
      (⟨(some 17), .conv .u64 (.t 16), none⟩ : IOper) ::
      (⟨(some 18), .call false (.f 157) [(.t 15), (.t 17)], none⟩ : IOper) ::
      (⟨(some 12), .mov (.t 18), none⟩ : IOper) ::
      (⟨(some 19), .extract (.t 12) 0, none⟩ : IOper) ::
      (⟨(some 20), .extract (.t 12) 1, none⟩ : IOper) ::
      (⟨(some 5), .mov (.t 19), none⟩ : IOper) ::
      (⟨(some 6), .mov (.t 20), none⟩ : IOper) ::
      [])))
    (.seq
     (.seq
      (.keep [0, 5, 6]
      (.reg ((⟨(some 21), .mov (.t 5), none⟩ : IOper) ::
        (⟨(some 22), .bin .gtr (.t 21) (.c (.int .u64 0)), none⟩ : IOper) ::
        (⟨(some 23), .mov (.t 22), none⟩ : IOper) ::
        (⟨(some 24), .mov (.t 6), (some (23, false))⟩ : IOper) ::
        (⟨(some 25), .bin .gtr (.t 24) (.c (.int .u64 9223372036854775807)), (some (23, false))⟩ : IOper) ::
        (⟨(some 26), .pick (.t 23) (.c (.kb true)) (.t 25), none⟩ : IOper) ::
        [])))
      (.cond (.t 26)
       (.keep [0, 6]
       (.reg ((⟨(some 27), .bad, none⟩ : IOper) ::
         (⟨none, .bad, none⟩ : IOper) ::
         [])))
       .skip))
     (.seq
      (.keep [0, 6]
      (.reg ((⟨(some 28), .mov (.t 6), none⟩ : IOper) ::
        (⟨(some 29), .conv .i64 (.t 28), none⟩ : IOper) ::
        (⟨(some 30), .mkrow (.int .i64) 8 (0 : Int) (.t 29) (.t 29), none⟩ : IOper) ::
        (⟨(some 7), .mov (.t 30), none⟩ : IOper) ::
        [])))
      (.seq
       (.reg ((⟨(some 31), .mov (.t 7), none⟩ : IOper) ::
         (⟨(some 32), .mov (.t 0), none⟩ : IOper) ::
         (⟨(some 33), .copy (.int .i64) (.t 31) (.t 32), none⟩ : IOper) ::
         (⟨(some 8), .mov (.t 33), none⟩ : IOper) ::
         []))
       (.seq
        (.block 0
         (.loop
          (.seq
           (.seq
            (.keep [7, 8]
            (.reg ((⟨(some 34), .mov (.t 8), none⟩ : IOper) ::
              (⟨(some 35), .mov (.t 7), none⟩ : IOper) ::
              (⟨(some 36), .len (.t 35), none⟩ : IOper) ::
              (⟨(some 37), .bin .lss (.t 34) (.t 36), none⟩ : IOper) ::
              [])))
            (.cond (.t 37)
             .skip
             (.exit 0)))
           (.block 1
            (.keep [7, 8]
            (.regD (((⟨(some 38), .mov (.t 8), none⟩, []) : IOper × List Nat) ::
              ((⟨(some 39), .mov (.t 7), none⟩, [0]) : IOper × List Nat) ::
              ((⟨(some 40), .mov (.t 8), none⟩, [0, 0]) : IOper × List Nat) ::
              ((⟨(some 41), .slice 1 (.t 39) (some (.t 40)) none none, none⟩, [2]) : IOper × List Nat) ::
              ((⟨(some 42), .mov (.t 7), none⟩, [0, 0, 0, 0]) : IOper × List Nat) ::
              ((⟨(some 43), .mov (.t 8), none⟩, [0, 0, 0, 0, 0]) : IOper × List Nat) ::
              ((⟨(some 44), .slice 1 (.t 42) none (some (.t 43)) none, none⟩, [2, 0, 0, 0]) : IOper × List Nat) ::
              ((⟨(some 45), .copy (.int .i64) (.t 41) (.t 44), none⟩, [6]) : IOper × List Nat) ::
              ((⟨(some 46), .bin .add (.t 38) (.t 45), none⟩, []) : IOper × List Nat) ::
              ((⟨(some 8), .mov (.t 46), none⟩, []) : IOper × List Nat) ::
              [])))))))
        (.seq
         (.keep [7]
         (.reg ((⟨(some 47), .mov (.t 7), none⟩ : IOper) ::
           (⟨(some 4), .mov (.t 47), none⟩ : IOper) ::
           [])))
         .ret))))))))
def rd_slices_Repeat_int_int : List RD := [.tmp 4 true (some (.int .i64))]
theorem ok_slices_Repeat_int_int : fnOk Tryd.prog Tryd.f131 ir_slices_Repeat_int_int rd_slices_Repeat_int_int = true := by kernel_rfl
def S_slices_Repeat_int_int : List AV → List Obj → Option (Prop × AV)
  | [.imm (.int .i64) x, .int .i64 n], [] => some ((x.length = 1 ∧ 1 ≤ n ∧ n ≤ 1000, .imm (.int .i64) (List.replicate n.toNat (x.getD 0 0))))
  | _, _ => none
theorem snd_slices_Repeat_int_int : SoundS Tryd.prog 131 (RoF S_slices_Repeat_int_int).sum := by
  refine ro_fn Tryd.func131 ok_slices_Repeat_int_int (env_cons (s := RoF S_math_bits_Mul) snd_math_bits_Mul (env_nil _)) fun args objs p v e => ?_
  unfold S_slices_Repeat_int_int at e
  split at e
  · rename_i x n
    cases e
    refine ⟨rfl, fun hw ho hp => ?_⟩
    change List Int at x
    obtain ⟨a, rfl⟩ : ∃ a, x = [a] := List.length_eq_one_iff.1 hp.1
    obtain ⟨k, rfl⟩ := Int.eq_ofNat_of_zero_le (show 0 ≤ n by omega)
    have hk : 1 ≤ k := by omega
    have q1 : min (0 + 1) k = 1 := by omega
    have q2 : List.take k [a] = [a] := List.take_of_length_le hk
    repeat' (intro t ht; first | (cases t <;> first | (cases ht; done) | ((try simp only [Bool.not_eq_eq_eq_not, Bool.not_true, Bool.not_false, Bool.and_eq_true, Bool.and_eq_false_iff, decide_eq_true_eq, decide_eq_false_iff_not] at ht); (try simp only [Int.toNat_natCast, dflt_int] at ht); (try (exfalso; first | contradiction | omega)))) | (refine ht ?_ ?_ <;> clear ht) | (refine ht.1 ?_ ?_ <;> clear ht) | (refine ht ?_; clear ht))
    all_goals first
      | exact True.intro
      | ((try simp only [Int.toNat_natCast, dflt_int, decide_eq_true_eq, decide_eq_false_iff_not, Bool.not_eq_eq_eq_not, Bool.not_true, Bool.not_false, Bool.and_eq_true, Bool.and_eq_false_iff, min_i64, max_i64, min_u64, max_u64, min_u32, max_u32, min_u16, max_u16, min_u8, max_u8] at *); omega)
      | (simp only [List.length_cons, List.length_nil]; (try simp only [Int.toNat_natCast, dflt_int, decide_eq_true_eq, decide_eq_false_iff_not, Bool.not_eq_eq_eq_not, Bool.not_true, Bool.not_false, Bool.and_eq_true, Bool.and_eq_false_iff, min_i64, max_i64, min_u64, max_u64, min_u32, max_u32, min_u16, max_u16, min_u8, max_u8] at *); omega)
      | (intro r h1 h2; clear h1; refine h2 ⟨[7, 8], Nat, (fun j => 1 ≤ j ∧ j ≤ k), fun j => [.own 0, .int .i64 j], fun j => [.row false (.int .i64) (List.replicate j a ++ List.replicate (k - j) 0)], fun j => k - j, ⟨1, ⟨by omega, by omega⟩, by simp only [cast_rfl, List.length_cons, List.length_nil, List.length_replicate, Int.toNat_natCast, q1]; rfl, by simp only [cast_rfl, List.length_cons, List.length_nil, List.length_replicate, Int.toNat_natCast, q2, List.drop_replicate]; rfl⟩, ?_⟩; clear h2)
      | trace_state
    rintro j ⟨hj1, hj2⟩
    have q3 : (List.replicate j a ++ List.replicate (k - j) (0 : Int)).length = k := by rw [List.length_append, List.length_replicate, List.length_replicate]; omega
    have q4 : (List.replicate j a ++ List.replicate (k - j) (0 : Int)).take j = List.replicate j a := List.take_left' (by simp)
    have q5 : ((k : Int) - (j : Int)).toNat = k - j := by omega
    have q6 := rep_step (a := a) hj1 hj2
    repeat' (intro t ht; first | (cases t <;> first | (cases ht; done) | ((try simp only [Bool.not_eq_eq_eq_not, Bool.not_true, Bool.not_false, Bool.and_eq_true, Bool.and_eq_false_iff, decide_eq_true_eq, decide_eq_false_iff_not] at ht); (try simp only [Int.toNat_natCast, dflt_int] at ht); (try (exfalso; first | contradiction | omega)))) | (refine ht ?_ ?_ <;> clear ht) | (refine ht.1 ?_ ?_ <;> clear ht) | (refine ht ?_; clear ht))
    all_goals (try simp only [cast_rfl, q3, q4, q5, Int.toNat_natCast, Int.toNat_zero, Int.sub_zero, List.drop_zero, Nat.zero_add, List.length_replicate])
    all_goals first
      | ((try simp only [Int.toNat_natCast, dflt_int, decide_eq_true_eq, decide_eq_false_iff_not, Bool.not_eq_eq_eq_not, Bool.not_true, Bool.not_false, Bool.and_eq_true, Bool.and_eq_false_iff, min_i64, max_i64, min_u64, max_u64, min_u32, max_u32, min_u16, max_u16, min_u8, max_u8] at *); omega)
      | (have e : j = k := by omega
         subst e
         refine ⟨?_, by first | rfl | exact True.intro⟩; rw [Nat.sub_self, List.replicate_zero, List.append_nil]; rfl)
      | (rw [q4] at q6
         refine ⟨j + min j (k - j), ⟨by omega, by omega⟩, by omega, ?_, ?_⟩
         · simp only [Int.natCast_add]; rfl
         · rw [← q6])
      | trace_state
  · cases e
def ir_port_speeds : IR :=
 (.seq
  (.keep []
  (.reg ((⟨(some 0), .mov (.c (.imm (.int .i64) [])), none⟩ : IOper) ::
    [])))
  (.seq
   (.reg ((⟨(some 1), .sliceAll (.int .i64) 1 [(0, 1, (.c (.int .i64 4)))], none⟩ : IOper) ::
     (⟨(some 2), .call false (.f 131) [(.t 1), (.c (.int .i64 8))], none⟩ : IOper) ::
     (⟨(some 0), .mov (.t 2), none⟩ : IOper) ::
     []))
   .ret))
def rd_port_speeds : List RD := [.tmp 0 true (some (.int .i64))]
theorem ok_port_speeds : fnOk Tryd.prog Tryd.f94 ir_port_speeds rd_port_speeds = true := by kernel_rfl
def S_port_speeds : List AV → List Obj → Option (Prop × AV)
  | [], [] => some ((True, .imm (.int .i64) [4, 4, 4, 4, 4, 4, 4, 4]))
  | _, _ => none
theorem snd_port_speeds : SoundS Tryd.prog 94 (RoF S_port_speeds).sum := by
  refine ro_fn Tryd.func94 ok_port_speeds (env_cons (s := RoF S_slices_Repeat_int_int) snd_slices_Repeat_int_int (env_nil _)) fun args objs p v e => ?_
  unfold S_port_speeds at e
  split at e
  · cases e
    refine ⟨rfl, fun hw ho hp => ?_⟩
    repeat' (intro t ht; first | (cases t <;> first | (cases ht; done) | ((try simp only [Bool.not_eq_eq_eq_not, Bool.not_true, Bool.not_false, Bool.and_eq_true, Bool.and_eq_false_iff, decide_eq_true_eq, decide_eq_false_iff_not] at ht); (try simp only [Int.toNat_natCast, dflt_int] at ht); (try (exfalso; first | contradiction | omega)))) | (refine ht ?_ ?_ <;> clear ht) | (refine ht.1 ?_ ?_ <;> clear ht) | (refine ht ?_; clear ht))
    all_goals first
      | exact True.intro
      | exact ⟨by decide, by decide, by decide⟩
      | exact ⟨rfl, rfl⟩
      | trace_state
  · cases e
end Go.Eng
