/- Contracts of functions of the given program, told by plain Lean functions. No condition. -/
import Derived.Test.YtcicjbcgnkbffaaF7
namespace Go.Eng
open Go.Proofs
set_option linter.unusedVariables false
set_option linter.unusedSimpArgs false
set_option maxRecDepth 100000
theorem lawK : ∀ k < 40, fBits (k : Nat) = bitsR (k : Nat) ∧ fSize (k : Nat) = sizeR (k : Nat) ∧ fMask (k : Nat) = maskR (k : Nat) ∧ fNeed (k : Nat) = needR (k : Nat) ∧ fVals (k : Nat) = valsR (k : Nat) ∧ nameF (k : Nat) = nameR (k : Nat) ∧ needsF (k : Nat) = needsR (k : Nat) := by decide +kernel
theorem lawT (n : Int) : fBits n = bitsR n ∧ fSize n = sizeR n ∧ fMask n = maskR n ∧ fNeed n = needR n ∧ fVals n = valsR n ∧ nameF n = nameR n ∧ needsF n = needsR n := by
  cases h : fIs n with
  | true =>
    have hn := fIs_t.1 h
    have := lawK n.toNat (by omega)
    rwa [Int.toNat_of_nonneg hn.1] at this
  | false =>
    have hr : recB n = false := by unfold recB; rw [h]; rfl
    unfold fBits bitsR fSize sizeR fMask maskR fNeed needR fVals valsR nameF nameR needsF
    rw [recs_out hr, if_neg (fIs_f.1 h), h]
    exact ⟨rfl, rfl, rfl, rfl, rfl, rfl, rfl⟩
theorem needs_le {n : Int} : (needsR n).length ≤ 3 := by
  cases h : recB n with
  | true => exact (recs_in h).2.2.2.2
  | false => rw [recs_out h]; exact Nat.zero_le _
def S_l07_FieldTells : List AV → List Obj → Option (Prop × AV)
  | [.int .i64 n, .str s], [] => some ((True, .bool true))
  | _, _ => none
theorem snd_l07_FieldTells : SoundS Try.prog 4 (RoF S_l07_FieldTells).sum := by
  refine ro_fn Try.func4 ok_l07_FieldTells (env_cons (s := RoF S_l07_sure) snd_l07_sure (env_cons (s := RoF S_field_Of) snd_field_Of (env_cons (s := RoF S_r07_Of) snd_r07_Of (env_cons (s := RoF S_field_Find) snd_field_Find (env_cons (s := RoF S_r07_Find) snd_r07_Find (env_cons (s := RoF S_field_Needs) snd_field_Needs (env_cons (s := RoF S_r07_Needs) snd_r07_Needs (env_cons (s := RoF S_l07_same) snd_l07_same (env_cons (s := RoF S_field_Name) snd_field_Name (env_cons (s := RoF S_field_Settable) snd_field_Settable (env_cons (s := RoF S_r07_Settable) snd_r07_Settable (env_nil _)))))))))))) fun args objs p v e => ?_
  unfold S_l07_FieldTells at e
  split at e
  · rename_i n s
    cases e
    refine ⟨rfl, fun hw ho hp => ?_⟩
    obtain ⟨h1, h2, h3, h4, h5, h6, h7⟩ := lawT n
    have h8 := needs_le (n := n)
    repeat' (intro t ht; first | (cases t <;> first | (cases ht; done) | (try simp only [Bool.not_eq_eq_eq_not, Bool.not_true, Bool.not_false, Bool.and_eq_true, Bool.and_eq_false_iff, decide_eq_true_eq, decide_eq_false_iff_not] at ht)) | (refine ht ?_ ?_ <;> clear ht) | (refine ht.1 ?_ ?_ <;> clear ht) | (refine ht ?_; clear ht))
    all_goals first
      | exact True.intro
      | exact ⟨rfl, rfl⟩
      | (exfalso; rw [h7] at *; omega)
      | (intro r h1 h2; refine h2 ⟨[0, 1, 5, 6, 7, 8, 9, 10, 11, 12, 13, 14, 15], Nat, (fun i => i ≤ (needsR n).length), fun i => [.int .i64 n, .str s, .ptr 0 0, .bool (fIs n), .ptr 1 0, .bool (fIs n), .int .i64 (findN s), .bool (findB s), .int .i64 (findN s), .bool (findB s), .imm (.int .i64) (needsF n), .imm (.int .i64) (needsR n), .int .i64 i], fun _ => [.box [.int .i64 (fBits n), .int .i64 (fSize n), .bool (fMask n), .int .i64 (fNeed n), .imm (.int .u64) (fVals n)], .box [.str (nameR n), .int .i64 (bitsR n), .int .i64 (sizeR n), .bool (maskR n), .int .i64 (needR n), .imm (.int .u64) (valsR n)]], fun i => (needsR n).length - i, ⟨0, Nat.zero_le _, rfl, rfl⟩, ?_⟩; clear h1 h2)
    intro i hi
    repeat' (intro t ht; first | (cases t <;> first | (cases ht; done) | (try simp only [Bool.not_eq_eq_eq_not, Bool.not_true, Bool.not_false, Bool.and_eq_true, Bool.and_eq_false_iff, decide_eq_true_eq, decide_eq_false_iff_not] at ht)) | (refine ht ?_ ?_ <;> clear ht) | (refine ht.1 ?_ ?_ <;> clear ht) | (refine ht ?_; clear ht))
    all_goals first
      | exact True.intro
      | exact ⟨rfl, rfl⟩
      | (rw [h7]; (try simp only [decide_eq_true_eq, decide_eq_false_iff_not, Bool.not_eq_eq_eq_not, Bool.not_true, Bool.not_false, Bool.and_eq_true, Bool.and_eq_false_iff, min_i64, max_i64, min_u64, max_u64, min_u32, max_u32, min_u16, max_u16, min_u8, max_u8] at *); omega)
      | ((try simp only [decide_eq_true_eq, decide_eq_false_iff_not, Bool.not_eq_eq_eq_not, Bool.not_true, Bool.not_false, Bool.and_eq_true, Bool.and_eq_false_iff, min_i64, max_i64, min_u64, max_u64, min_u32, max_u32, min_u16, max_u16, min_u8, max_u8] at *); omega)
      | (exfalso; rw [h7] at *; (try simp only [decide_eq_true_eq, decide_eq_false_iff_not, Bool.not_eq_eq_eq_not, Bool.not_true, Bool.not_false, Bool.and_eq_true, Bool.and_eq_false_iff, min_i64, max_i64, min_u64, max_u64, min_u32, max_u32, min_u16, max_u16, min_u8, max_u8] at *); simp_all; done)
      | (refine ⟨?_, rfl⟩; unfold sameF; simp_all; done)
      | (exfalso; unfold sameF at *; simp_all; done)
      | (rw [h7] at *; exact ⟨i + 1, by omega, by (try simp only [decide_eq_true_eq, decide_eq_false_iff_not, Bool.not_eq_eq_eq_not, Bool.not_true, Bool.not_false, Bool.and_eq_true, Bool.and_eq_false_iff, min_i64, max_i64, min_u64, max_u64, min_u32, max_u32, min_u16, max_u16, min_u8, max_u8] at *); omega, rfl, rfl⟩)
      | trace_state
  · cases e
end Go.Eng
