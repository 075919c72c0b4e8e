/- Contracts of functions of the given program, told by plain Lean functions. No condition. -/
import Derived.Test.YtcicjbcgnkbffaaF8
namespace Go.Eng
open Go.Proofs
set_option linter.unusedVariables false
set_option linter.unusedSimpArgs false
set_option maxRecDepth 100000
set_option maxHeartbeats 1000000
def nkI (k i : Nat) : Bool := !decide (i < (needsF (k : Nat)).length) || (fIs ((needsF (k : Nat)).getD i 0) && decide ((needsF (k : Nat)).getD i 0 < (k : Nat)) && (!decide (i = 0) || decide (fNeed ((needsF (k : Nat)).getD i 0) < 0)) && (!decide (0 < i) || decide (fNeed ((needsF (k : Nat)).getD i 0) = (needsF (k : Nat)).getD (i - 1) 0)))
theorem nk0 : ∀ k < 40, nkI k 0 = true ∧ nkI k 1 = true ∧ nkI k 2 = true := by decide +kernel
theorem nk1 : ∀ k < 40, (needsF (k : Nat)).length ≤ 3 ∧ ((needsF (k : Nat)).length = 0 → fNeed (k : Nat) < 0) ∧ (0 < (needsF (k : Nat)).length → 0 ≤ fNeed (k : Nat) ∧ (needsF (k : Nat)).getD ((needsF (k : Nat)).length - 1) 0 = fNeed (k : Nat)) := by decide +kernel
theorem nkI_of {n : Int} (hn : 0 ≤ n ∧ n < 40) {i : Nat} (hi : i < (needsF n).length) : fIs ((needsF n).getD i 0) = true ∧ (needsF n).getD i 0 < n ∧ (i = 0 → fNeed ((needsF n).getD i 0) < 0) ∧ (0 < i → fNeed ((needsF n).getD i 0) = (needsF n).getD (i - 1) 0) := by
  have h0 := nk0 n.toNat (by omega)
  have h1 := (nk1 n.toNat (by omega)).1
  rw [Int.toNat_of_nonneg hn.1] at h1
  have key : nkI n.toNat i = true := by
    have hi3 : i = 0 ∨ i = 1 ∨ i = 2 := by omega
    rcases hi3 with rfl | rfl | rfl
    · exact h0.1
    · exact h0.2.1
    · exact h0.2.2
  unfold nkI at key
  rw [Int.toNat_of_nonneg hn.1] at key
  simp only [decide_eq_true hi, Bool.not_true, Bool.false_or, Bool.and_eq_true, Bool.or_eq_true, Bool.not_eq_true', decide_eq_true_eq, decide_eq_false_iff_not] at key
  obtain ⟨⟨⟨q1, q2⟩, q3⟩, q4⟩ := key
  exact ⟨q1, q2, fun e => q3.resolve_left (fun h => h e), fun e => q4.resolve_left (fun h => h e)⟩
theorem nk2 : ∀ k < 40, ∀ v ∈ fVals (k : Nat), fSize (fNeed (k : Nat)) ≤ 2 ∧ 0 ≤ fBits (fNeed (k : Nat)) ∧ fBits (fNeed (k : Nat)) ≤ 16 ∧ v < 2 ^ (min (fBits (fNeed (k : Nat))).toNat 64) ∧ v ≠ 0 := by decide +kernel
theorem nk3 : ∀ k < 40, findB (nameF (k : Nat)) = true ∧ findN (nameF (k : Nat)) = (k : Nat) ∧ 8 * fSize (k : Nat) - 16 < fBits (k : Nat) ∧ fBits (k : Nat) ≤ 8 * fSize (k : Nat) ∧ 0 ≤ fSize (k : Nat) ∧ fSize (k : Nat) ≤ 16 := by decide +kernel
theorem nk4 : ∀ k < 40, (fVals (k : Nat)).length ≤ 2 := by decide +kernel
theorem getD_mem {l : List Int} {j : Nat} (h : j < l.length) (d : Int) : l.getD j d ∈ l := by
  rw [List.getD_eq_getElem?_getD, List.getElem?_eq_getElem h]; exact List.getElem_mem h
theorem pow16 : ∀ b ≤ 16, (2 : Int) ^ (min b 64) ≤ 65536 ∧ 0 ≤ (2 : Int) ^ (min b 64) := by decide
def S_l07_FieldNeeds : List AV → List Obj → Option (Prop × AV)
  | [.int .i64 n], [] => some ((True, .bool true))
  | _, _ => none
theorem snd_l07_FieldNeeds : SoundS Try.prog 5 (RoF S_l07_FieldNeeds).sum := by
  refine ro_fn Try.func5 ok_l07_FieldNeeds (env_cons (s := RoF S_field_Of) snd_field_Of (env_cons (s := RoF S_field_Needs) snd_field_Needs (env_cons (s := RoF S_field_Name) snd_field_Name (env_cons (s := RoF S_field_Settable) snd_field_Settable (env_cons (s := RoF S_l07_sure) snd_l07_sure (env_cons (s := RoF S_field_Find) snd_field_Find (env_nil _))))))) fun args objs p v e => ?_
  unfold S_l07_FieldNeeds at e
  split at e
  · rename_i n
    cases e
    refine ⟨rfl, fun hw ho hp => ?_⟩
    cases hb : fIs n with
    | false =>
      have h1 : needsF n = [] := if_neg (fIs_f.1 hb)
      have h2 : nameF n = [] := by unfold nameF; rw [hb]; rfl
      have h3 : settF n = false := by have := fIs_f.1 hb; unfold settF; simp; omega
      repeat' (intro t ht; first | (cases t <;> first | (cases ht; done) | (try simp only [Bool.not_eq_eq_eq_not, Bool.not_true, Bool.not_false, Bool.and_eq_true, Bool.and_eq_false_iff, decide_eq_true_eq, decide_eq_false_iff_not] at ht)) | (refine ht ?_ ?_ <;> clear ht) | (refine ht.1 ?_ ?_ <;> clear ht) | (refine ht ?_; clear ht))
      all_goals first
        | exact True.intro
        | (exfalso; simp_all; done)
        | (refine ⟨?_, rfl⟩; simp_all; done)
        | trace_state
    | true =>
      have hn := fIs_t.1 hb
      have k1 := nk1 n.toNat (by omega)
      have k2 := nk2 n.toNat (by omega)
      have k3 := nk3 n.toNat (by omega)
      have k4 := nk4 n.toNat (by omega)
      rw [Int.toNat_of_nonneg hn.1] at k1 k2 k3 k4
      obtain ⟨k11, k13, k14⟩ := k1
      obtain ⟨k31, k32, k33, k34, k35, k36⟩ := k3
      repeat' (intro t ht; first | (cases t <;> first | (cases ht; done) | (try simp only [Bool.not_eq_eq_eq_not, Bool.not_true, Bool.not_false, Bool.and_eq_true, Bool.and_eq_false_iff, decide_eq_true_eq, decide_eq_false_iff_not] at ht)) | (refine ht ?_ ?_ <;> clear ht) | (refine ht.1 ?_ ?_ <;> clear ht) | (refine ht ?_; clear ht))
      all_goals first
        | exact True.intro
        | (intro r h1 h2; refine h2 ⟨[0, 3, 5, 6], Nat, (fun i => i ≤ (needsF n).length), fun i => [.int .i64 n, .ptr 0 0, .imm (.int .i64) (needsF n), .int .i64 i], fun _ => [.box [.int .i64 (fBits n), .int .i64 (fSize n), .bool (fMask n), .int .i64 (fNeed n), .imm (.int .u64) (fVals n)]], fun i => (needsF n).length - i, ⟨0, Nat.zero_le _, rfl, rfl⟩, ?_⟩; clear h1 h2)
        | (exfalso; simp_all; done)
      intro i hi
      repeat' (intro t ht; first | (cases t <;> first | (cases ht; done) | (try simp only [Bool.not_eq_eq_eq_not, Bool.not_true, Bool.not_false, Bool.and_eq_true, Bool.and_eq_false_iff, decide_eq_true_eq, decide_eq_false_iff_not] at ht)) | (refine ht ?_ ?_ <;> clear ht) | (refine ht.1 ?_ ?_ <;> clear ht) | (refine ht ?_; clear ht))
      all_goals first
        | exact True.intro
        | (intro r h1 h2; refine h2 ⟨[0, 3, 9], Nat, (fun i => i ≤ (fVals n).length), fun i => [.int .i64 n, .ptr 0 0, .int .i64 i], fun _ => [.box [.int .i64 (fBits n), .int .i64 (fSize n), .bool (fMask n), .int .i64 (fNeed n), .imm (.int .u64) (fVals n)]], fun i => (fVals n).length - i, ⟨0, Nat.zero_le _, rfl, rfl⟩, ?_⟩; clear h1 h2)
        | ((try simp only [decide_eq_true_eq, decide_eq_false_iff_not, Bool.not_eq_eq_eq_not, Bool.not_true, Bool.not_false, Bool.and_eq_true, Bool.and_eq_false_iff, min_i64, max_i64, min_u64, max_u64, min_u32, max_u32, min_u16, max_u16, min_u8, max_u8] at *); omega)
        | (exfalso; omega)
        | (exfalso
           have e : (((needsF n).length : Int) - 1).toNat = (needsF n).length - 1 := by omega
           have e2 := (k14 (by omega)).2
           have e3 : (needsF n).getD (((needsF n).length : Int) - 1).toNat (Ty.int IntKind.i64).dflt = fNeed n := by rw [e]; exact e2
           exact absurd e3 (by assumption))
        | (exfalso
           by_cases h0 : 0 < (needsF n).length
           · have e2 := (k14 h0).1; simp_all; done
           · have e2 := k13 (by omega); simp_all; omega)
        | (exfalso
           have hlt : i < (needsF n).length := by omega
           obtain ⟨q1, q2, q3, q4⟩ := nkI_of hn hlt
           have q1 : fIs ((needsF n).getD (i : Int).toNat (Ty.int IntKind.i64).dflt) = true := q1
           have q2 : (needsF n).getD (i : Int).toNat (Ty.int IntKind.i64).dflt < n := q2
           have q3 : i = 0 → fNeed ((needsF n).getD (i : Int).toNat (Ty.int IntKind.i64).dflt) < 0 := q3
           first
             | (simp_all; done)
             | omega
             | (have q4 := q4 (by omega)
                have e : ((i : Int) - 1).toNat = i - 1 := by omega
                have e3 : fNeed ((needsF n).getD (i : Int).toNat (Ty.int IntKind.i64).dflt) = (needsF n).getD ((i : Int) - 1).toNat (Ty.int IntKind.i64).dflt := by rw [e]; exact q4
                exact absurd e3 (by assumption)))
        | (refine ⟨i + 1, by omega, by (try simp only [decide_eq_true_eq, decide_eq_false_iff_not, Bool.not_eq_eq_eq_not, Bool.not_true, Bool.not_false, Bool.and_eq_true, Bool.and_eq_false_iff, min_i64, max_i64, min_u64, max_u64, min_u32, max_u32, min_u16, max_u16, min_u8, max_u8] at *); omega, rfl, rfl⟩)
        | skip
      all_goals intro j hj
      all_goals repeat' (intro t ht; first | (cases t <;> first | (cases ht; done) | (try simp only [Bool.not_eq_eq_eq_not, Bool.not_true, Bool.not_false, Bool.and_eq_true, Bool.and_eq_false_iff, decide_eq_true_eq, decide_eq_false_iff_not] at ht)) | (refine ht ?_ ?_ <;> clear ht) | (refine ht.1 ?_ ?_ <;> clear ht) | (refine ht ?_; clear ht))
      all_goals first
        | exact True.intro
        | ((try simp only [decide_eq_true_eq, decide_eq_false_iff_not, Bool.not_eq_eq_eq_not, Bool.not_true, Bool.not_false, Bool.and_eq_true, Bool.and_eq_false_iff, min_i64, max_i64, min_u64, max_u64, min_u32, max_u32, min_u16, max_u16, min_u8, max_u8] at *); omega)
        | (refine ⟨?_, rfl⟩; simp_all; done)
        | (refine ⟨j + 1, by omega, by (try simp only [decide_eq_true_eq, decide_eq_false_iff_not, Bool.not_eq_eq_eq_not, Bool.not_true, Bool.not_false, Bool.and_eq_true, Bool.and_eq_false_iff, min_i64, max_i64, min_u64, max_u64, min_u32, max_u32, min_u16, max_u16, min_u8, max_u8] at *); omega, rfl, rfl⟩)
        | (have hj2 : j < (fVals n).length := by omega
           obtain ⟨q1, q2, q3, q4, q5⟩ := k2 ((fVals n).getD (j : Int).toNat (Ty.int IntKind.u64).dflt) (getD_mem hj2 _)
           have hp := pow16 (fBits (fNeed n)).toNat (by omega)
           have hb64 : IntKind.u64.bits = 64 := rfl
           first
             | exact q2
             | (rw [hb64, Int.one_mul]; (try simp only [decide_eq_true_eq, decide_eq_false_iff_not, Bool.not_eq_eq_eq_not, Bool.not_true, Bool.not_false, Bool.and_eq_true, Bool.and_eq_false_iff, min_i64, max_i64, min_u64, max_u64, min_u32, max_u32, min_u16, max_u16, min_u8, max_u8] at *); omega)
             | (exfalso; omega)
             | (exfalso; rw [hb64, Int.one_mul] at *; omega)
             | (exfalso; exact q5 (by assumption))
             | (exfalso; simp only [hb64, Int.one_mul] at *; omega))
        | (exfalso; simp_all; omega)
        | (exfalso; simp_all; done)
  · cases e
end Go.Eng
