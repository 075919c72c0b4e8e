/- Contracts of functions of the given program, told by plain Lean functions. No condition. -/
import Derived.Test.YtcicjbcgnkbffaaF6
namespace Go.Eng
open Go.Proofs
set_option linter.unusedVariables false
set_option linter.unusedSimpArgs false
set_option maxRecDepth 100000
theorem take_step {α : Type} {a b : List α} {d : α} {i : Nat} (h : a.take i = b.take i) (hi : i < a.length) (hl : a.length = b.length) (e : a.getD i d = b.getD i d) : a.take (i + 1) = b.take (i + 1) := by
  have hb : i < b.length := by omega
  rw [List.getD_eq_getElem?_getD, List.getD_eq_getElem?_getD, List.getElem?_eq_getElem hi, List.getElem?_eq_getElem hb] at e
  rw [List.take_succ_eq_append_getElem hi, List.take_succ_eq_append_getElem hb, h, show a[i] = b[i] from e]
theorem take_all {α : Type} {a b : List α} {i : Nat} (h : a.take i = b.take i) (hi : a.length ≤ i) (hl : a.length = b.length) : a = b := by
  rwa [List.take_of_length_le hi, List.take_of_length_le (by omega)] at h
theorem take_ne {α : Type} {a b : List α} {d : α} {i : Nat} (e : ¬ a.getD i d = b.getD i d) : a ≠ b := fun h => e (by rw [h])
def sameF (b1 s1 : Int) (m1 : Bool) (n1 : Int) (v1 : List Int) (b2 s2 : Int) (m2 : Bool) (n2 : Int) (v2 : List Int) : Bool := decide (b1 = b2) && decide (s1 = s2) && (m1 == m2) && decide (n1 = n2) && decide (v1 = v2)
def S_l07_same : List AV → List Obj → Option (Prop × AV)
  | [.agg [.int .i64 b1, .int .i64 s1, .bool m1, .int .i64 n1, .imm (.int .u64) v1], .agg [.str nm, .int .i64 b2, .int .i64 s2, .bool m2, .int .i64 n2, .imm (.int .u64) v2]], [] => some ((True, .bool (sameF b1 s1 m1 n1 v1 b2 s2 m2 n2 v2)))
  | _, _ => none
theorem snd_l07_same : SoundS Try.prog 15 (RoF S_l07_same).sum := by
  refine ro_fn Try.func15 ok_l07_same (env_nil _) fun args objs p v e => ?_
  unfold S_l07_same at e
  split at e
  · rename_i b1 s1 m1 n1 v1 nm b2 s2 m2 n2 v2
    cases e
    refine ⟨rfl, fun hw ho hp => ?_⟩
    have hl : v1.length ≤ maxLen := by
      have h := hw _ (List.mem_cons_self ..); simp only [AV.wf1] at h; exact (h (.imm (.int .u64) v1) (by simp)).2
    unfold maxLen at hl
    repeat' (intro t ht; first | (cases t <;> first | (cases ht; done) | (try simp only [Bool.not_eq_eq_eq_not, Bool.not_true, Bool.not_false, Bool.and_eq_true, Bool.and_eq_false_iff, decide_eq_true_eq, decide_eq_false_iff_not] at ht)) | (refine ht ?_ ?_ <;> clear ht) | (refine ht.1 ?_ ?_ <;> clear ht) | (refine ht ?_; clear ht))
    all_goals first
      | (refine ⟨?_, rfl⟩; unfold sameF; simp_all; done)
      | (refine ⟨?_, rfl⟩; have hne : v1 ≠ v2 := fun h => (by assumption : ¬ (v1.length : Int) = v2.length) (by rw [h]); unfold sameF; simp_all; done)
      | (intro r h1 h2; refine h2 ⟨[2, 3, 5], Nat, (fun i => i ≤ v1.length ∧ v1.take i = v2.take i), fun i => [.ptr 0 0, .ptr 1 0, .int .i64 i], fun _ => [.box [.int .i64 b1, .int .i64 s1, .bool m1, .int .i64 n1, .imm (.int .u64) v1], .box [.str nm, .int .i64 b2, .int .i64 s2, .bool m2, .int .i64 n2, .imm (.int .u64) v2]], fun i => v1.length - i, ⟨0, ⟨Nat.zero_le _, rfl⟩, rfl, rfl⟩, ?_⟩; clear h1 h2)
    rintro i ⟨hi, he⟩
    have hl2 : v1.length = v2.length := by omega
    repeat' (intro t ht; first | (cases t <;> first | (cases ht; done) | (try simp only [Bool.not_eq_eq_eq_not, Bool.not_true, Bool.not_false, Bool.and_eq_true, Bool.and_eq_false_iff, decide_eq_true_eq, decide_eq_false_iff_not] at ht)) | (refine ht ?_ ?_ <;> clear ht) | (refine ht.1 ?_ ?_ <;> clear ht) | (refine ht ?_; clear ht))
    all_goals first
      | ((try simp only [decide_eq_true_eq, decide_eq_false_iff_not, Bool.not_eq_eq_eq_not, Bool.not_true, Bool.not_false, Bool.and_eq_true, Bool.and_eq_false_iff, min_i64, max_i64, min_u64, max_u64, min_u32, max_u32, min_u16, max_u16, min_u8, max_u8] at *); omega)
      | (have e := take_all he (by omega) hl2; refine ⟨?_, rfl⟩; subst e; unfold sameF; simp_all; done)
      | (have e := take_ne (a := v1) (b := v2) (by assumption); refine ⟨?_, rfl⟩; unfold sameF; simp_all; done)
      | exact ⟨i + 1, ⟨by (try simp only [decide_eq_true_eq, decide_eq_false_iff_not, Bool.not_eq_eq_eq_not, Bool.not_true, Bool.not_false, Bool.and_eq_true, Bool.and_eq_false_iff, min_i64, max_i64, min_u64, max_u64, min_u32, max_u32, min_u16, max_u16, min_u8, max_u8] at *); omega, take_step he (by (try simp only [decide_eq_true_eq, decide_eq_false_iff_not, Bool.not_eq_eq_eq_not, Bool.not_true, Bool.not_false, Bool.and_eq_true, Bool.and_eq_false_iff, min_i64, max_i64, min_u64, max_u64, min_u32, max_u32, min_u16, max_u16, min_u8, max_u8] at *); omega) hl2 (by assumption)⟩, by (try simp only [decide_eq_true_eq, decide_eq_false_iff_not, Bool.not_eq_eq_eq_not, Bool.not_true, Bool.not_false, Bool.and_eq_true, Bool.and_eq_false_iff, min_i64, max_i64, min_u64, max_u64, min_u32, max_u32, min_u16, max_u16, min_u8, max_u8] at *); omega, rfl, rfl⟩
  · cases e
end Go.Eng
