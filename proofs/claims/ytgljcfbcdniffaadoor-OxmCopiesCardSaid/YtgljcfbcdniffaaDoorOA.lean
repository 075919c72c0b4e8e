/- Contracts of functions of the given program, told by plain Lean functions. No condition. -/
import Derived.Test.YtgljcfbcdniffaaDoorProg
import Derived.Test.YtgljcfbcdniffaaDoorESum
import Derived.KernelRfl
import Derived.Test.YtgljcfbcdniffaaDoorO9
import Derived.Test.YtgljcfbcdniffaaDoorO7
namespace Go.Eng
open Go.Proofs
set_option linter.unusedVariables false
set_option linter.unusedSimpArgs false
set_option maxRecDepth 100000
set_option maxHeartbeats 1000000
def ir_r08_Alike : IR :=
 (.seq
  (.keep [0, 1]
  (.reg ((⟨(some 2), .boxv (.t 0), none⟩ : IOper) ::
    (⟨(some 3), .boxv (.t 1), none⟩ : IOper) ::
    (⟨(some 4), .mov (.c (.kb false)), none⟩ : IOper) ::
    [])))
  (.seq
   (.keep [2, 3]
   (.reg ((⟨(some 5), .fieldAddr 0 (.t 2), none⟩ : IOper) ::
     (⟨(some 6), .load none (.t 5), none⟩ : IOper) ::
     (⟨(some 7), .fieldAddr 0 (.t 3), none⟩ : IOper) ::
     (⟨(some 8), .load none (.t 7), none⟩ : IOper) ::
     (⟨(some 9), .bin .eql (.t 6) (.t 8), none⟩ : IOper) ::
     (⟨(some 10), .mov (.t 9), none⟩ : IOper) ::
     (⟨(some 11), .fieldAddr 1 (.t 2), (some (10, true))⟩ : IOper) ::
     (⟨(some 12), .load none (.t 11), (some (10, true))⟩ : IOper) ::
     (⟨(some 13), .fieldAddr 1 (.t 3), (some (10, true))⟩ : IOper) ::
     (⟨(some 14), .load none (.t 13), (some (10, true))⟩ : IOper) ::
     (⟨(some 15), .bin .eql (.t 12) (.t 14), (some (10, true))⟩ : IOper) ::
     (⟨(some 16), .pick (.t 10) (.t 15) (.c (.kb false)), none⟩ : IOper) ::
     (⟨(some 17), .mov (.t 16), none⟩ : IOper) ::
     (⟨(some 18), .fieldAddr 3 (.t 2), (some (17, true))⟩ : IOper) ::
     (⟨(some 19), .load none (.t 18), (some (17, true))⟩ : IOper) ::
     (⟨(some 20), .fieldAddr 3 (.t 3), (some (17, true))⟩ : IOper) ::
     (⟨(some 21), .load none (.t 20), (some (17, true))⟩ : IOper) ::
     (⟨(some 22), .bin .eql (.t 19) (.t 21), (some (17, true))⟩ : IOper) ::
     (⟨(some 23), .pick (.t 17) (.t 22) (.c (.kb false)), none⟩ : IOper) ::
     (⟨(some 4), .mov (.t 23), none⟩ : IOper) ::
     [])))
   .ret))
def rd_r08_Alike : List RD := [.tmp 4 true none]
theorem ok_r08_Alike : fnOk Tryd.prog Tryd.f15 ir_r08_Alike rd_r08_Alike = true := by kernel_rfl
def S_r08_Alike : List AV → List Obj → Option (Prop × AV)
  | [.agg [.int .i64 c, .int .i64 f, .bool h, .int .u64 x, .imm (.int .u8) v, .imm (.int .u8) m], .agg [.int .i64 c', .int .i64 f', .bool h', .int .u64 x', .imm (.int .u8) v', .imm (.int .u8) m']], [] => some ((True, .bool (decide (c = c') && decide (f = f') && decide (x = x'))))
  | _, _ => none
theorem snd_r08_Alike : SoundS Tryd.prog 15 (RoF S_r08_Alike).sum := by
  refine ro_fn Tryd.func15 ok_r08_Alike (env_nil _) fun args objs p v e => ?_
  unfold S_r08_Alike at e
  split at e
  · rename_i c f h x v m c' f' h' x' v' m'
    cases e
    refine ⟨rfl, fun hw ho hp => ?_⟩
    change List Int at v
    change List Int at m
    change List Int at v
    change List Int at m
    repeat' (intro t ht; first | (cases t <;> first | (cases ht; done) | ((try simp only [Bool.not_eq_eq_eq_not, Bool.not_true, Bool.not_false, Bool.and_eq_true, Bool.and_eq_false_iff, decide_eq_true_eq, decide_eq_false_iff_not] at ht); (try simp only [Int.toNat_natCast, dflt_int] at ht))) | (refine ht ?_ ?_ <;> clear ht) | (refine ht.1 ?_ ?_ <;> clear ht) | (refine ht ?_; clear ht))
    all_goals first
      | exact True.intro
      | (simp_all; done)
      | trace_state
  · cases e
def sameO (c f : Int) (h : Bool) (x : Int) (v m : List Int) (c' f' : Int) (h' : Bool) (x' : Int) (v' m' : List Int) : Bool := decide (c = c') && decide (f = f') && decide (x = x') && (h == h') && decide (v = v') && decide (m = m')
theorem same_self (c f : Int) (h : Bool) (x : Int) (v m : List Int) : sameO c f h x v m c f h x v m = true := by unfold sameO; simp
def ir_r08_Same : IR :=
 (.seq
  (.keep [0, 1]
  (.reg ((⟨(some 2), .boxv (.t 0), none⟩ : IOper) ::
    (⟨(some 3), .boxv (.t 1), none⟩ : IOper) ::
    (⟨(some 4), .mov (.c (.kb false)), none⟩ : IOper) ::
    [])))
  (.seq
   (.keep [2, 3]
   (.reg ((⟨(some 5), .load (some 6) (.t 2), none⟩ : IOper) ::
     (⟨(some 6), .load (some 6) (.t 3), none⟩ : IOper) ::
     (⟨(some 7), .call false (.f 15) [(.t 5), (.t 6)], none⟩ : IOper) ::
     (⟨(some 8), .mov (.t 7), none⟩ : IOper) ::
     (⟨(some 9), .fieldAddr 2 (.t 2), (some (8, true))⟩ : IOper) ::
     (⟨(some 10), .load none (.t 9), (some (8, true))⟩ : IOper) ::
     (⟨(some 11), .fieldAddr 2 (.t 3), (some (8, true))⟩ : IOper) ::
     (⟨(some 12), .load none (.t 11), (some (8, true))⟩ : IOper) ::
     (⟨(some 13), .eqb false (.t 10) (.t 12), (some (8, true))⟩ : IOper) ::
     (⟨(some 14), .pick (.t 8) (.t 13) (.c (.kb false)), none⟩ : IOper) ::
     (⟨(some 15), .mov (.t 14), none⟩ : IOper) ::
     (⟨(some 16), .fieldAddr 4 (.t 2), (some (15, true))⟩ : IOper) ::
     (⟨(some 17), .load none (.t 16), (some (15, true))⟩ : IOper) ::
     (⟨(some 18), .fieldAddr 4 (.t 3), (some (15, true))⟩ : IOper) ::
     (⟨(some 19), .load none (.t 18), (some (15, true))⟩ : IOper) ::
     (⟨(some 20), .call false (.f 35) [(.t 17), (.t 19)], (some (15, true))⟩ : IOper) ::
     (⟨(some 21), .pick (.t 15) (.t 20) (.c (.kb false)), none⟩ : IOper) ::
     (⟨(some 22), .mov (.t 21), none⟩ : IOper) ::
     (⟨(some 23), .fieldAddr 5 (.t 2), (some (22, true))⟩ : IOper) ::
     (⟨(some 24), .load none (.t 23), (some (22, true))⟩ : IOper) ::
     (⟨(some 25), .fieldAddr 5 (.t 3), (some (22, true))⟩ : IOper) ::
     (⟨(some 26), .load none (.t 25), (some (22, true))⟩ : IOper) ::
     (⟨(some 27), .call false (.f 35) [(.t 24), (.t 26)], (some (22, true))⟩ : IOper) ::
     (⟨(some 28), .pick (.t 22) (.t 27) (.c (.kb false)), none⟩ : IOper) ::
     (⟨(some 4), .mov (.t 28), none⟩ : IOper) ::
     [])))
   .ret))
def rd_r08_Same : List RD := [.tmp 4 true none]
theorem ok_r08_Same : fnOk Tryd.prog Tryd.f12 ir_r08_Same rd_r08_Same = true := by kernel_rfl
def S_r08_Same : List AV → List Obj → Option (Prop × AV)
  | [.agg [.int .i64 c, .int .i64 f, .bool h, .int .u64 x, .imm (.int .u8) v, .imm (.int .u8) m], .agg [.int .i64 c', .int .i64 f', .bool h', .int .u64 x', .imm (.int .u8) v', .imm (.int .u8) m']], [] => some ((True, .bool (sameO c f h x v m c' f' h' x' v' m')))
  | _, _ => none
theorem snd_r08_Same : SoundS Tryd.prog 12 (RoF S_r08_Same).sum := by
  refine ro_fn Tryd.func12 ok_r08_Same (env_cons (s := RoF S_r08_Alike) snd_r08_Alike (env_cons (s := RoF S_r01_Bytes) snd_r01_Bytes (env_nil _))) fun args objs p v e => ?_
  unfold S_r08_Same at e
  split at e
  · rename_i c f h x v m c' f' h' x' v' m'
    cases e
    refine ⟨rfl, fun hw ho hp => ?_⟩
    change List Int at v
    change List Int at m
    change List Int at v
    change List Int at m
    repeat' (intro t ht; first | (cases t <;> first | (cases ht; done) | ((try simp only [Bool.not_eq_eq_eq_not, Bool.not_true, Bool.not_false, Bool.and_eq_true, Bool.and_eq_false_iff, decide_eq_true_eq, decide_eq_false_iff_not] at ht); (try simp only [Int.toNat_natCast, dflt_int] at ht))) | (refine ht ?_ ?_ <;> clear ht) | (refine ht.1 ?_ ?_ <;> clear ht) | (refine ht ?_; clear ht))
    all_goals first
      | exact True.intro
      | (refine ⟨?_, rfl⟩; unfold sameO; simp_all; done)
      | (refine ⟨?_, rfl⟩; unfold sameO; cases h <;> cases h' <;> simp_all; done)
      | (refine ⟨?_, rfl⟩; unfold sameO; rcases ‹(¬c = c' ∨ ¬f = f') ∨ ¬x = x'› with (h1 | h1) | h1 <;> rw [decide_eq_false h1] <;> simp)
      | trace_state
  · cases e
def ir_r08_Few : IR :=
 (.seq
  (.keep [0]
  (.reg ((⟨(some 1), .boxv (.t 0), none⟩ : IOper) ::
    (⟨(some 2), .mov (.c (.kb false)), none⟩ : IOper) ::
    [])))
  (.seq
   (.keep [1]
   (.reg ((⟨(some 3), .fieldAddr 4 (.t 1), none⟩ : IOper) ::
     (⟨(some 4), .load none (.t 3), none⟩ : IOper) ::
     (⟨(some 5), .len (.t 4), none⟩ : IOper) ::
     (⟨(some 6), .bin .leq (.t 5) (.c (.int .i64 300)), none⟩ : IOper) ::
     (⟨(some 7), .mov (.t 6), none⟩ : IOper) ::
     (⟨(some 8), .fieldAddr 5 (.t 1), (some (7, true))⟩ : IOper) ::
     (⟨(some 9), .load none (.t 8), (some (7, true))⟩ : IOper) ::
     (⟨(some 10), .len (.t 9), (some (7, true))⟩ : IOper) ::
     (⟨(some 11), .bin .leq (.t 10) (.c (.int .i64 300)), (some (7, true))⟩ : IOper) ::
     (⟨(some 12), .pick (.t 7) (.t 11) (.c (.kb false)), none⟩ : IOper) ::
     (⟨(some 2), .mov (.t 12), none⟩ : IOper) ::
     [])))
   .ret))
def rd_r08_Few : List RD := [.tmp 2 true none]
theorem ok_r08_Few : fnOk Tryd.prog Tryd.f9 ir_r08_Few rd_r08_Few = true := by kernel_rfl
def S_r08_Few : List AV → List Obj → Option (Prop × AV)
  | [.agg [.int .i64 c, .int .i64 f, .bool h, .int .u64 x, .imm (.int .u8) v, .imm (.int .u8) m]], [] => some ((True, .bool (decide (v.length ≤ 300) && decide (m.length ≤ 300))))
  | _, _ => none
theorem snd_r08_Few : SoundS Tryd.prog 9 (RoF S_r08_Few).sum := by
  refine ro_fn Tryd.func9 ok_r08_Few (env_nil _) fun args objs p v e => ?_
  unfold S_r08_Few at e
  split at e
  · rename_i c f h x v m
    cases e
    refine ⟨rfl, fun hw ho hp => ?_⟩
    change List Int at v
    change List Int at m
    repeat' (intro t ht; first | (cases t <;> first | (cases ht; done) | ((try simp only [Bool.not_eq_eq_eq_not, Bool.not_true, Bool.not_false, Bool.and_eq_true, Bool.and_eq_false_iff, decide_eq_true_eq, decide_eq_false_iff_not] at ht); (try simp only [Int.toNat_natCast, dflt_int] at ht))) | (refine ht ?_ ?_ <;> clear ht) | (refine ht.1 ?_ ?_ <;> clear ht) | (refine ht ?_; clear ht))
    all_goals first
      | exact True.intro
      | (simp_all; done)
      | (have e : decide (v.length ≤ 300) = false := decide_eq_false (by omega)
         rw [e]; exact ⟨rfl, rfl⟩)
      | (have e : decide (v.length ≤ 300) = true := decide_eq_true (by omega)
         rw [e]; refine ⟨?_, rfl⟩; rw [Bool.true_and]; congr 1; rw [Bool.eq_iff_iff]; simp only [decide_eq_true_eq]; omega)
      | trace_state
  · cases e
end Go.Eng
