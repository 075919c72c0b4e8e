/- Contracts of functions of the given program, told by plain Lean functions. No condition. -/
import Derived.Test.YtcicjbcgnkbffaaI1
import Derived.Test.YtcicjbcgnkbffaaI2
namespace Go.Eng
open Go.Proofs
set_option linter.unusedVariables false
set_option linter.unusedSimpArgs false
set_option maxRecDepth 100000
set_option maxHeartbeats 1000000
def fIs (n : Int) : Bool := decide (0 ≤ n) && decide (n < 40)
theorem fIs_t {n : Int} : fIs n = true ↔ 0 ≤ n ∧ n < 40 := by unfold fIs; simp
theorem fIs_f {n : Int} : fIs n = false ↔ ¬ (0 ≤ n ∧ n < 40) := by rw [← fIs_t]; simp
def S_field_is : List AV → List Obj → Option (Prop × AV)
  | [.int .i64 n], [] => some ((True, .bool (fIs n)))
  | _, _ => none
theorem snd_field_is : SoundS Try.prog 19 (RoF S_field_is).sum := by
  refine ro_fn Try.func19 ok_field_is (env_nil _) fun args objs p v e => ?_
  unfold S_field_is at e
  split at e
  · rename_i n
    cases e
    refine ⟨rfl, fun hw ho hp => ?_⟩
    repeat' (intro t ht; first | (cases t <;> first | (cases ht; done) | (try simp only [Bool.not_eq_eq_eq_not, Bool.not_true, Bool.not_false, Bool.and_eq_true, Bool.and_eq_false_iff, decide_eq_true_eq, decide_eq_false_iff_not] at ht)) | (refine ht ?_ ?_ <;> clear ht) | (refine ht.1 ?_ ?_ <;> clear ht) | (refine ht ?_; clear ht))
    all_goals refine ⟨?_, rfl⟩
    all_goals unfold fIs
    all_goals first | (congr 1; simp_all; done) | (congr 1; simp_all; omega)
  · cases e
def bitsL : List Int := [32, 32, 64, 48, 48, 16, 13, 3, 6, 2, 8, 32, 32, 16, 16, 16, 16, 16, 16, 8, 8, 16, 32, 32, 48, 48, 128, 128, 20, 8, 8, 128, 48, 48, 20, 3, 1, 24, 64, 9]
def S_field_bits : List AV → List Obj → Option (Prop × AV)
  | [.int .i64 n], [] => some (0 ≤ n ∧ n < 40, .int .i64 (bitsL.getD n.toNat 0))
  | _, _ => none
theorem snd_field_bits : SoundS Try.prog 21 (RoF S_field_bits).sum := by
  refine ro_fn Try.func21 ok_field_bits (env_nil _) fun args objs p v e => ?_
  unfold S_field_bits at e
  split at e
  · rename_i n
    cases e
    refine ⟨rfl, fun hw _ hp => ?_⟩
    repeat' (intro t ht; first | (cases t <;> first | (cases ht; done) | (try simp only [Bool.not_eq_eq_eq_not, Bool.not_true, Bool.not_false, Bool.and_eq_true, Bool.and_eq_false_iff, decide_eq_true_eq, decide_eq_false_iff_not] at ht)) | (refine ht ?_ ?_ <;> clear ht) | (refine ht.1 ?_ ?_ <;> clear ht) | (refine ht ?_; clear ht))
    · exact hp
    · show 0 + n.toNat * 1 < 40; omega
    · exact ⟨by simp [bitsL], rfl⟩
  · cases e
theorem bits_le : ∀ k < 40, 1 ≤ bitsL.getD k 0 ∧ bitsL.getD k 0 ≤ 128 := by decide
def sizeF (n : Int) : Int := if n = 28 ∨ n = 34 then 4 else (bitsL.getD n.toNat 0 + 7) / 8
def S_field_size : List AV → List Obj → Option (Prop × AV)
  | [.int .i64 n], [] => some (0 ≤ n ∧ n < 40, .int .i64 (sizeF n))
  | _, _ => none
theorem snd_field_size : SoundS Try.prog 20 (RoF S_field_size).sum := by
  refine ro_fn Try.func20 ok_field_size (env_cons (s := RoF S_field_bits) snd_field_bits (env_nil _)) fun args objs p v e => ?_
  unfold S_field_size at e
  split at e
  · rename_i n
    cases e
    refine ⟨rfl, fun hw _ hp => ?_⟩
    repeat' (intro t ht; first | (cases t <;> first | (cases ht; done) | (try simp only [Bool.not_eq_eq_eq_not, Bool.not_true, Bool.not_false, Bool.and_eq_true, Bool.and_eq_false_iff, decide_eq_true_eq, decide_eq_false_iff_not] at ht)) | (refine ht ?_ ?_ <;> clear ht) | (refine ht.1 ?_ ?_ <;> clear ht) | (refine ht ?_; clear ht))
    all_goals have hb := bits_le n.toNat (by omega)
    all_goals generalize hB : bitsL.getD n.toNat 0 = B at *
    all_goals first
      | exact hp
      | exact (by decide)
      | (exfalso; (try simp only [decide_eq_true_eq, decide_eq_false_iff_not, Bool.not_eq_eq_eq_not, Bool.not_true, Bool.not_false, Bool.and_eq_true, Bool.and_eq_false_iff, min_i64, max_i64, min_u64, max_u64, min_u32, max_u32, min_u16, max_u16, min_u8, max_u8] at *); omega)
      | ((try simp only [decide_eq_true_eq, decide_eq_false_iff_not, Bool.not_eq_eq_eq_not, Bool.not_true, Bool.not_false, Bool.and_eq_true, Bool.and_eq_false_iff, min_i64, max_i64, min_u64, max_u64, min_u32, max_u32, min_u16, max_u16, min_u8, max_u8] at *); omega)
      | ((try simp only [decide_eq_true_eq, decide_eq_false_iff_not, Bool.not_eq_eq_eq_not, Bool.not_true, Bool.not_false, Bool.and_eq_true, Bool.and_eq_false_iff, min_i64, max_i64, min_u64, max_u64, min_u32, max_u32, min_u16, max_u16, min_u8, max_u8] at *); rw [tdiv_nn (by omega)]; omega)
      | (refine ⟨?_, rfl⟩; unfold sizeF; rw [tdiv_nn (by omega), hB, if_neg (by (try simp only [decide_eq_true_eq, decide_eq_false_iff_not, Bool.not_eq_eq_eq_not, Bool.not_true, Bool.not_false, Bool.and_eq_true, Bool.and_eq_false_iff, min_i64, max_i64, min_u64, max_u64, min_u32, max_u32, min_u16, max_u16, min_u8, max_u8] at *); omega)]; congr 2; omega)
      | (refine ⟨?_, rfl⟩; unfold sizeF; rw [if_pos (by (try simp only [decide_eq_true_eq, decide_eq_false_iff_not, Bool.not_eq_eq_eq_not, Bool.not_true, Bool.not_false, Bool.and_eq_true, Bool.and_eq_false_iff, min_i64, max_i64, min_u64, max_u64, min_u32, max_u32, min_u16, max_u16, min_u8, max_u8] at *); omega)])
  · cases e
def maskedF (n : Int) : Bool := [2, 3, 4, 6, 11, 12, 37, 38, 39, 22, 23, 24, 25, 26, 27, 28].contains n
def S_field_masked : List AV → List Obj → Option (Prop × AV)
  | [.int .i64 n], [] => some (True, .bool (maskedF n))
  | _, _ => none
theorem snd_field_masked : SoundS Try.prog 22 (RoF S_field_masked).sum := by
  refine ro_fn Try.func22 ok_field_masked (env_nil _) fun args objs p v e => ?_
  unfold S_field_masked at e
  split at e
  · rename_i n
    cases e
    refine ⟨rfl, fun hw _ hp => ?_⟩
    repeat' (intro t ht; first | (cases t <;> first | (cases ht; done) | (try simp only [Bool.not_eq_eq_eq_not, Bool.not_true, Bool.not_false, Bool.and_eq_true, Bool.and_eq_false_iff, decide_eq_true_eq, decide_eq_false_iff_not] at ht)) | (refine ht ?_ ?_ <;> clear ht) | (refine ht.1 ?_ ?_ <;> clear ht) | (refine ht ?_; clear ht))
    all_goals refine ⟨?_, rfl⟩
    all_goals (congr 1; simp_all [maskedF]; done)
  · cases e
def deepF (n : Int) : Int × List Int :=
  if n = 13 ∨ n = 14 then (10, [6]) else if n = 15 ∨ n = 16 then (10, [17]) else if n = 17 ∨ n = 18 then (10, [132]) else if n = 19 ∨ n = 20 then (10, [1])
  else if n = 29 ∨ n = 30 then (10, [58]) else if n = 31 then (29, [135, 136]) else if n = 32 then (29, [135]) else if n = 33 then (29, [136]) else (-1, [])
def S_field_deep : List AV → List Obj → Option (Prop × AV)
  | [.int .i64 n], [] => some (True, .tup [.int .i64 (deepF n).1, .imm (.int .u64) (deepF n).2])
  | _, _ => none
theorem snd_field_deep : SoundS Try.prog 28 (RoF S_field_deep).sum := by
  refine ro_fn Try.func28 ok_field_deep (env_nil _) fun args objs p v e => ?_
  unfold S_field_deep at e
  split at e
  · rename_i n
    cases e
    refine ⟨rfl, fun hw _ hp => ?_⟩
    repeat' (intro t ht; first | (cases t <;> first | (cases ht; done) | (try simp only [Bool.not_eq_eq_eq_not, Bool.not_true, Bool.not_false, Bool.and_eq_true, Bool.and_eq_false_iff, decide_eq_true_eq, decide_eq_false_iff_not] at ht)) | (refine ht ?_ ?_ <;> clear ht) | (refine ht.1 ?_ ?_ <;> clear ht) | (refine ht ?_; clear ht))
    all_goals first
      | (exfalso; (try simp only [decide_eq_true_eq, decide_eq_false_iff_not, Bool.not_eq_eq_eq_not, Bool.not_true, Bool.not_false, Bool.and_eq_true, Bool.and_eq_false_iff, min_i64, max_i64, min_u64, max_u64, min_u32, max_u32, min_u16, max_u16, min_u8, max_u8] at *); omega)
      | (refine ⟨?_, rfl⟩; simp_all [deepF]; done)
      | ((try simp only [decide_eq_true_eq, decide_eq_false_iff_not, Bool.not_eq_eq_eq_not, Bool.not_true, Bool.not_false, Bool.and_eq_true, Bool.and_eq_false_iff, min_i64, max_i64, min_u64, max_u64, min_u32, max_u32, min_u16, max_u16, min_u8, max_u8] at *); omega)
      | ((try simp only [decide_eq_true_eq, decide_eq_false_iff_not, Bool.not_eq_eq_eq_not, Bool.not_true, Bool.not_false, Bool.and_eq_true, Bool.and_eq_false_iff, min_i64, max_i64, min_u64, max_u64, min_u32, max_u32, min_u16, max_u16, min_u8, max_u8] at *); subst_vars; exact ⟨rfl, rfl⟩)
      | ((try simp only [decide_eq_true_eq, decide_eq_false_iff_not, Bool.not_eq_eq_eq_not, Bool.not_true, Bool.not_false, Bool.and_eq_true, Bool.and_eq_false_iff, min_i64, max_i64, min_u64, max_u64, min_u32, max_u32, min_u16, max_u16, min_u8, max_u8] at *); have hn : n = 32 ∨ n = 33 := by omega
         rcases hn with rfl | rfl <;> exact ⟨rfl, rfl⟩)
      | trace_state
  · cases e
def needF (n : Int) : Int × List Int :=
  if n = 1 then (0, []) else if n = 7 then (6, []) else if n = 8 ∨ n = 9 ∨ n = 10 then (5, [2048, 34525]) else if n = 11 ∨ n = 12 then (5, [2048])
  else if n = 21 ∨ n = 22 ∨ n = 23 ∨ n = 24 ∨ n = 25 then (5, [2054]) else if n = 26 ∨ n = 27 ∨ n = 28 ∨ n = 39 then (5, [34525])
  else if n = 34 ∨ n = 35 ∨ n = 36 then (5, [34887, 34888]) else if n = 37 then (5, [35047]) else deepF n
def S_field_need : List AV → List Obj → Option (Prop × AV)
  | [.int .i64 n], [] => some (True, .tup [.int .i64 (needF n).1, .imm (.int .u64) (needF n).2])
  | _, _ => none
theorem snd_field_need : SoundS Try.prog 23 (RoF S_field_need).sum := by
  refine ro_fn Try.func23 ok_field_need (env_cons (s := RoF S_field_deep) snd_field_deep (env_nil _)) fun args objs p v e => ?_
  unfold S_field_need at e
  split at e
  · rename_i n
    cases e
    refine ⟨rfl, fun hw _ hp => ?_⟩
    repeat' (intro t ht; first | (cases t <;> first | (cases ht; done) | (try simp only [Bool.not_eq_eq_eq_not, Bool.not_true, Bool.not_false, Bool.and_eq_true, Bool.and_eq_false_iff, decide_eq_true_eq, decide_eq_false_iff_not] at ht)) | (refine ht ?_ ?_ <;> clear ht) | (refine ht.1 ?_ ?_ <;> clear ht) | (refine ht ?_; clear ht))
    all_goals first
      | trivial
      | (exfalso; (try simp only [decide_eq_true_eq, decide_eq_false_iff_not, Bool.not_eq_eq_eq_not, Bool.not_true, Bool.not_false, Bool.and_eq_true, Bool.and_eq_false_iff, min_i64, max_i64, min_u64, max_u64, min_u32, max_u32, min_u16, max_u16, min_u8, max_u8] at *); omega)
      | (refine ⟨?_, rfl⟩; simp_all [needF]; done)
      | ((try simp only [decide_eq_true_eq, decide_eq_false_iff_not, Bool.not_eq_eq_eq_not, Bool.not_true, Bool.not_false, Bool.and_eq_true, Bool.and_eq_false_iff, min_i64, max_i64, min_u64, max_u64, min_u32, max_u32, min_u16, max_u16, min_u8, max_u8] at *); subst_vars; exact ⟨rfl, rfl⟩)
      | trace_state
  · cases e
def namesL : List (List Int) := [[105, 110, 95, 112, 111, 114, 116], [105, 110, 95, 112, 104, 121, 95, 112, 111, 114, 116], [109, 101, 116, 97, 100, 97, 116, 97], [101, 116, 104, 95, 100, 115, 116], [101, 116, 104, 95, 115, 114, 99], [101, 116, 104, 95, 116, 121, 112, 101], [118, 108, 97, 110, 95, 118, 105, 100], [118, 108, 97, 110, 95, 112, 99, 112], [105, 112, 95, 100, 115, 99, 112], [105, 112, 95, 101, 99, 110], [105, 112, 95, 112, 114, 111, 116, 111], [105, 112, 118, 52, 95, 115, 114, 99], [105, 112, 118, 52, 95, 100, 115, 116], [116, 99, 112, 95, 115, 114, 99], [116, 99, 112, 95, 100, 115, 116], [117, 100, 112, 95, 115, 114, 99], [117, 100, 112, 95, 100, 115, 116], [115, 99, 116, 112, 95, 115, 114, 99], [115, 99, 116, 112, 95, 100, 115, 116], [105, 99, 109, 112, 118, 52, 95, 116, 121, 112, 101], [105, 99, 109, 112, 118, 52, 95, 99, 111, 100, 101], [97, 114, 112, 95, 111, 112], [97, 114, 112, 95, 115, 112, 97], [97, 114, 112, 95, 116, 112, 97], [97, 114, 112, 95, 115, 104, 97], [97, 114, 112, 95, 116, 104, 97], [105, 112, 118, 54, 95, 115, 114, 99], [105, 112, 118, 54, 95, 100, 115, 116], [105, 112, 118, 54, 95, 102, 108, 97, 98, 101, 108], [105, 99, 109, 112, 118, 54, 95, 116, 121, 112, 101], [105, 99, 109, 112, 118, 54, 95, 99, 111, 100, 101], [105, 112, 118, 54, 95, 110, 100, 95, 116, 97, 114, 103, 101, 116], [105, 112, 118, 54, 95, 110, 100, 95, 115, 108, 108], [105, 112, 118, 54, 95, 110, 100, 95, 116, 108, 108], [109, 112, 108, 115, 95, 108, 97, 98, 101, 108], [109, 112, 108, 115, 95, 116, 99], [109, 112, 108, 115, 95, 98, 111, 115], [112, 98, 98, 95, 105, 115, 105, 100], [116, 117, 110, 110, 101, 108, 95, 105, 100], [105, 112, 118, 54, 95, 101, 120, 116, 104, 100, 114]]
def S_field_names : List AV → List Obj → Option (Prop × AV)
  | [], [] => some (True, .agg (namesL.map .str))
  | _, _ => none
theorem snd_field_names : SoundS Try.prog 25 (RoF S_field_names).sum := by
  refine ro_fn Try.func25 ok_field_names (env_nil _) fun args objs p v e => ?_
  unfold S_field_names at e
  split at e
  · cases e
    refine ⟨rfl, fun hw _ hp => ?_⟩
    repeat' (intro t ht; first | (cases t <;> first | (cases ht; done) | (try simp only [Bool.not_eq_eq_eq_not, Bool.not_true, Bool.not_false, Bool.and_eq_true, Bool.and_eq_false_iff, decide_eq_true_eq, decide_eq_false_iff_not] at ht)) | (refine ht ?_ ?_ <;> clear ht) | (refine ht.1 ?_ ?_ <;> clear ht) | (refine ht ?_; clear ht))
    exact ⟨rfl, rfl⟩
  · cases e
def nameF (n : Int) : List Int := if fIs n then namesL.getD n.toNat [] else []
def S_field_Name : List AV → List Obj → Option (Prop × AV)
  | [.int .i64 n], [] => some ((True, .str (nameF n)))
  | _, _ => none
theorem snd_field_Name : SoundS Try.prog 16 (RoF S_field_Name).sum := by
  refine ro_fn Try.func16 ok_field_Name (env_cons (s := RoF S_field_is) snd_field_is (env_cons (s := RoF S_field_names) snd_field_names (env_nil _))) fun args objs p v e => ?_
  unfold S_field_Name at e
  split at e
  · rename_i n
    cases e
    refine ⟨rfl, fun hw ho hp => ?_⟩
    repeat' (intro t ht; first | (cases t <;> first | (cases ht; done) | (try simp only [Bool.not_eq_eq_eq_not, Bool.not_true, Bool.not_false, Bool.and_eq_true, Bool.and_eq_false_iff, decide_eq_true_eq, decide_eq_false_iff_not] at ht)) | (refine ht ?_ ?_ <;> clear ht) | (refine ht.1 ?_ ?_ <;> clear ht) | (refine ht ?_; clear ht))
    all_goals first
      | trivial
      | (have h := fIs_t.1 (by assumption); refine ⟨h.1, ?_⟩; exact h.2)
      | (have h := fIs_t.1 (by assumption); simp only [List.length_cons, List.length_nil] at *; omega)
      | (refine ⟨?_, rfl⟩; unfold nameF; rw [if_pos (by assumption)]; rfl)
      | (refine ⟨?_, rfl⟩; unfold nameF; rw [if_neg (by simp_all)])
      | trace_state
  · cases e
def settF (n : Int) : Bool := decide (2 < n) && decide (n < 39)
def S_field_Settable : List AV → List Obj → Option (Prop × AV)
  | [.int .i64 n], [] => some ((True, .bool (settF n)))
  | _, _ => none
theorem snd_field_Settable : SoundS Try.prog 17 (RoF S_field_Settable).sum := by
  refine ro_fn Try.func17 ok_field_Settable (env_cons (s := RoF S_field_is) snd_field_is (env_nil _)) fun args objs p v e => ?_
  unfold S_field_Settable at e
  split at e
  · rename_i n
    cases e
    refine ⟨rfl, fun hw ho hp => ?_⟩
    repeat' (intro t ht; first | (cases t <;> first | (cases ht; done) | (try simp only [Bool.not_eq_eq_eq_not, Bool.not_true, Bool.not_false, Bool.and_eq_true, Bool.and_eq_false_iff, decide_eq_true_eq, decide_eq_false_iff_not] at ht)) | (refine ht ?_ ?_ <;> clear ht) | (refine ht.1 ?_ ?_ <;> clear ht) | (refine ht ?_; clear ht))
    all_goals first
      | trivial
      | (refine ⟨?_, rfl⟩; unfold settF; congr 1; rw [Bool.eq_iff_iff]; first | (have h := fIs_t.1 (by assumption); simp at *; omega) | (have h := fIs_f.1 (by assumption); simp at *; omega) | (simp at *; omega))
  · cases e
def fBits (n : Int) : Int := if fIs n then bitsL.getD n.toNat 0 else 0
def fSize (n : Int) : Int := if fIs n then sizeF n else 0
def fMask (n : Int) : Bool := if fIs n then maskedF n else false
def fNeed (n : Int) : Int := if fIs n then (needF n).1 else 0
def fVals (n : Int) : List Int := if fIs n then (needF n).2 else []
abbrev ofF (n : Int) : AV := .tup [.agg [.int .i64 (fBits n), .int .i64 (fSize n), .bool (fMask n), .int .i64 (fNeed n), .imm (.int .u64) (fVals n)], .bool (fIs n)]
def S_field_Of : List AV → List Obj → Option (Prop × AV)
  | [.int .i64 n], [] => some ((True, ofF n))
  | _, _ => none
theorem snd_field_Of : SoundS Try.prog 9 (RoF S_field_Of).sum := by
  refine ro_fn Try.func9 ok_field_Of (env_cons (s := RoF S_field_is) snd_field_is (env_cons (s := RoF S_field_bits) snd_field_bits (env_cons (s := RoF S_field_size) snd_field_size (env_cons (s := RoF S_field_masked) snd_field_masked (env_cons (s := RoF S_field_need) snd_field_need (env_nil _)))))) fun args objs p v e => ?_
  unfold S_field_Of at e
  split at e
  · rename_i n
    cases e
    refine ⟨rfl, fun hw ho hp => ?_⟩
    repeat' (intro t ht; first | (cases t <;> first | (cases ht; done) | (try simp only [Bool.not_eq_eq_eq_not, Bool.not_true, Bool.not_false, Bool.and_eq_true, Bool.and_eq_false_iff, decide_eq_true_eq, decide_eq_false_iff_not] at ht)) | (refine ht ?_ ?_ <;> clear ht) | (refine ht.1 ?_ ?_ <;> clear ht) | (refine ht ?_; clear ht))
    all_goals try (try simp only [decide_eq_true_eq, decide_eq_false_iff_not, Bool.not_eq_eq_eq_not, Bool.not_true, Bool.not_false, Bool.and_eq_true, Bool.and_eq_false_iff, min_i64, max_i64, min_u64, max_u64, min_u32, max_u32, min_u16, max_u16, min_u8, max_u8] at *)
    all_goals first
      | exact fIs_t.1 (by assumption)
      | (simp_all [ofF, fBits, fSize, fMask, fNeed, fVals]; done)
  · cases e
end Go.Eng
