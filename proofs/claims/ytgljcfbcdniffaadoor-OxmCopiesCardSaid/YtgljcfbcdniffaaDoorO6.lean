/- Contracts of functions of the given program, told by plain Lean functions. No condition. -/
import Derived.Test.YtgljcfbcdniffaaDoorProg
import Derived.Test.YtgljcfbcdniffaaDoorESum
import Derived.KernelRfl
import Derived.Test.YtgljcfbcdniffaaDoorO5
namespace Go.Eng
open Go.Proofs
set_option linter.unusedVariables false
set_option linter.unusedSimpArgs false
set_option maxRecDepth 100000
set_option maxHeartbeats 1000000
def longS (h ex : Bool) (sz n : Int) : Int := if ex = true then (n - 4).tdiv (if h = true then 2 else 1) else sz
def longK (h ex : Bool) (sz n : Int) : Bool := if ex = true then decide (0 ≤ n - 4) && decide ((n - 4).tmod (if h = true then 2 else 1) = 0) && decide ((n - 4).tdiv (if h = true then 2 else 1) ≤ sz) else decide (n = (if h = true then 2 else 1) * sz)
def ir_oxm_long : IR :=
 (.seq
  (.keep [0, 1, 2]
  (.reg ((⟨(some 3), .boxv (.t 0), none⟩ : IOper) ::
    (⟨(some 4), .boxv (.t 1), none⟩ : IOper) ::
    (⟨(some 6), .mov (.c (.int .i64 0)), none⟩ : IOper) ::
    (⟨(some 7), .mov (.c (.kb false)), none⟩ : IOper) ::
    [])))
  (.seq
   (.reg ((⟨(some 8), .mov (.c (.int .i64 1)), none⟩ : IOper) ::
     []))
   (.seq
    (.seq
     (.reg ((⟨(some 9), .fieldAddr 2 (.t 3), none⟩ : IOper) ::
       (⟨(some 10), .load none (.t 9), none⟩ : IOper) ::
       []))
     (.cond (.t 10)
      (.keep [2, 4, 8]
      (.reg ((⟨(some 11), .mov (.t 8), none⟩ : IOper) ::
        (⟨(some 12), .bin .add (.t 11) (.c (.int .i64 1)), none⟩ : IOper) ::
        (⟨(some 8), .mov (.t 12), none⟩ : IOper) ::
        [])))
      .skip))
    (.seq
     (.seq
      (.keep [2, 4, 8]
      (.reg ((⟨(some 13), .fieldAddr 3 (.t 4), none⟩ : IOper) ::
        (⟨(some 14), .load none (.t 13), none⟩ : IOper) ::
        (⟨(some 15), .un .not (.t 14), none⟩ : IOper) ::
        [])))
      (.cond (.t 15)
       (.seq
        (.keep [2, 4, 8]
        (.regD (((⟨(some 16), .fieldAddr 0 (.t 4), none⟩, []) : IOper × List Nat) ::
          ((⟨(some 17), .load none (.t 16), none⟩, []) : IOper × List Nat) ::
          ((⟨(some 18), .mov (.t 2), none⟩, [0, 0]) : IOper × List Nat) ::
          ((⟨(some 19), .mov (.t 8), none⟩, [0, 0, 0]) : IOper × List Nat) ::
          ((⟨(some 20), .fieldAddr 0 (.t 4), none⟩, [0, 0, 0, 0]) : IOper × List Nat) ::
          ((⟨(some 21), .load none (.t 20), none⟩, [1, 0, 0, 0]) : IOper × List Nat) ::
          ((⟨(some 22), .bin .mul (.t 19) (.t 21), none⟩, [3, 0, 0]) : IOper × List Nat) ::
          ((⟨(some 23), .bin .eql (.t 18) (.t 22), none⟩, [5, 0]) : IOper × List Nat) ::
          ((⟨(some 6), .mov (.t 17), none⟩, [0, 0, 0, 0, 0, 0]) : IOper × List Nat) ::
          ((⟨(some 7), .mov (.t 23), none⟩, []) : IOper × List Nat) ::
          [])))
        .ret)
       .skip))
     (.seq
      (.keep [2, 4, 8]
      (.reg ((⟨(some 24), .mov (.t 2), none⟩ : IOper) ::
        (⟨(some 25), .bin .sub (.t 24) (.c (.int .i64 4)), none⟩ : IOper) ::
        (⟨(some 2), .mov (.t 25), none⟩ : IOper) ::
        [])))
      (.seq
       (.keep [2, 4, 8]
       (.regD (((⟨(some 26), .mov (.t 2), none⟩, []) : IOper × List Nat) ::
         ((⟨(some 27), .mov (.t 8), none⟩, [0]) : IOper × List Nat) ::
         ((⟨(some 28), .bin .quo (.t 26) (.t 27), none⟩, []) : IOper × List Nat) ::
         ((⟨(some 29), .mov (.t 2), none⟩, [0, 0, 0]) : IOper × List Nat) ::
         ((⟨(some 30), .bin .geq (.t 29) (.c (.int .i64 0)), none⟩, [1, 0, 0]) : IOper × List Nat) ::
         ((⟨(some 31), .mov (.t 30), none⟩, [2, 0, 0]) : IOper × List Nat) ::
         ((⟨(some 32), .mov (.t 2), (some (31, true))⟩, [3, 0, 0]) : IOper × List Nat) ::
         ((⟨(some 33), .mov (.t 8), (some (31, true))⟩, [0, 3, 0, 0]) : IOper × List Nat) ::
         ((⟨(some 34), .bin .rem (.t 32) (.t 33), (some (31, true))⟩, [5, 0, 0]) : IOper × List Nat) ::
         ((⟨(some 35), .bin .eql (.t 34) (.c (.int .i64 0)), (some (31, true))⟩, [6, 0, 0]) : IOper × List Nat) ::
         ((⟨(some 36), .pick (.t 31) (.t 35) (.c (.kb false)), none⟩, [7, 0, 0]) : IOper × List Nat) ::
         ((⟨(some 37), .mov (.t 36), none⟩, [8, 0, 0]) : IOper × List Nat) ::
         ((⟨(some 38), .mov (.t 2), (some (37, true))⟩, [9, 0, 0]) : IOper × List Nat) ::
         ((⟨(some 39), .mov (.t 8), (some (37, true))⟩, [0, 9, 0, 0]) : IOper × List Nat) ::
         ((⟨(some 40), .bin .quo (.t 38) (.t 39), (some (37, true))⟩, [11, 0, 0]) : IOper × List Nat) ::
         ((⟨(some 41), .fieldAddr 0 (.t 4), (some (37, true))⟩, [0, 0, 0, 9, 0, 0]) : IOper × List Nat) ::
         ((⟨(some 42), .load none (.t 41), (some (37, true))⟩, [1, 0, 0, 9, 0, 0]) : IOper × List Nat) ::
         ((⟨(some 43), .bin .leq (.t 40) (.t 42), (some (37, true))⟩, [14, 0, 0]) : IOper × List Nat) ::
         ((⟨(some 44), .pick (.t 37) (.t 43) (.c (.kb false)), none⟩, [15, 0, 0]) : IOper × List Nat) ::
         ((⟨(some 6), .mov (.t 28), none⟩, [0, 0, 0, 0, 0, 0, 0]) : IOper × List Nat) ::
         ((⟨(some 7), .mov (.t 44), none⟩, []) : IOper × List Nat) ::
         [])))
       .ret))))))
def rd_oxm_long : List RD := [.tmp 6 true none, .tmp 7 true none]
theorem ok_oxm_long : fnOk Tryd.prog Tryd.f82 ir_oxm_long rd_oxm_long = true := by kernel_rfl
def S_oxm_long : List AV → List Obj → Option (Prop × AV)
  | [.agg [.int .i64 c, .int .i64 f, .bool h, .int .u64 x, .imm (.int .u8) v, .imm (.int .u8) m], .agg [.int .i64 sz, .int .i64 bits, .bool mk, .bool ex], .int .i64 n], [] => some ((0 ≤ n ∧ n ≤ 255 ∧ 0 ≤ sz ∧ sz ≤ 100, .tup [.int .i64 (longS h ex sz n), .bool (longK h ex sz n)]))
  | _, _ => none
theorem snd_oxm_long : SoundS Tryd.prog 82 (RoF S_oxm_long).sum := by
  refine ro_fn Tryd.func82 ok_oxm_long (env_nil _) fun args objs p v e => ?_
  unfold S_oxm_long at e
  split at e
  · rename_i c f h x v m sz bits mk ex n
    cases e
    refine ⟨rfl, fun hw ho hp => ?_⟩
    change List Int at v
    change List Int at m
    have t1 : (n - 4).tdiv 1 = n - 4 := Int.tdiv_one _
    have t2 : -4 ≤ (n - 4).tdiv 2 ∧ (n - 4).tdiv 2 ≤ 255 := by
      by_cases h : 0 ≤ n - 4
      · rw [tdiv_nn h]; omega
      · have : n = 0 ∨ n = 1 ∨ n = 2 ∨ n = 3 := by omega
        rcases this with h | h | h | h <;> subst h <;> decide
    have e2 : (1 + 1 : Int) = 2 := rfl
    cases h <;> cases ex
    all_goals repeat' (intro t ht; first | (cases t <;> first | (cases ht; done) | ((try simp only [Bool.not_eq_eq_eq_not, Bool.not_true, Bool.not_false, Bool.and_eq_true, Bool.and_eq_false_iff, decide_eq_true_eq, decide_eq_false_iff_not] at ht); (try simp only [Int.toNat_natCast, dflt_int] at ht))) | (refine ht ?_ ?_ <;> clear ht) | (refine ht.1 ?_ ?_ <;> clear ht) | (refine ht ?_; clear ht))
    all_goals (try simp only [e2] at *)
    all_goals first
      | exact True.intro
      | exact (by decide)
      | ((try simp only [Int.toNat_natCast, dflt_int, decide_eq_true_eq, decide_eq_false_iff_not, Bool.not_eq_eq_eq_not, Bool.not_true, Bool.not_false, Bool.and_eq_true, Bool.and_eq_false_iff, min_i64, max_i64, min_u64, max_u64, min_u32, max_u32, min_u16, max_u16, min_u8, max_u8] at *); simp only [t1]; omega)
      | ((try simp only [Int.toNat_natCast, dflt_int, decide_eq_true_eq, decide_eq_false_iff_not, Bool.not_eq_eq_eq_not, Bool.not_true, Bool.not_false, Bool.and_eq_true, Bool.and_eq_false_iff, min_i64, max_i64, min_u64, max_u64, min_u32, max_u32, min_u16, max_u16, min_u8, max_u8] at *); omega)
      | (have hn : ¬ 0 ≤ n - 4 := by assumption
         refine ⟨?_, by first | rfl | exact True.intro⟩; unfold longK; rw [decide_eq_false hn]; rfl)
      | (unfold longS longK; simp_all; done)
      | trace_state
  · cases e
end Go.Eng
