/- Contracts of functions of the given program, told by plain Lean functions. No condition. -/
import Derived.Test.YtcicjbcgnkbffaaF5
namespace Go.Eng
open Go.Proofs
set_option linter.unusedVariables false
set_option linter.unusedSimpArgs false
set_option maxRecDepth 100000
theorem tabName : ∀ i < 40, (tab.getD i fieldT.dflt).1 = namesL.getD i [] := by decide +kernel
theorem namesLen : namesL.length = 40 := rfl
def S_r07_Find : List AV → List Obj → Option (Prop × AV)
  | [.str s], [] => some ((True, .tup [.int .i64 (findN s), .bool (findB s)]))
  | _, _ => none
theorem snd_r07_Find : SoundS Try.prog 12 (RoF S_r07_Find).sum := by
  refine ro_fn Try.func12 ok_r07_Find (env_cons (s := RoF S_r07_All) snd_r07_All (env_nil _)) fun args objs p v e => ?_
  unfold S_r07_Find at e
  split at e
  · rename_i s
    cases e
    refine ⟨rfl, fun hw ho hp => ?_⟩
    repeat' (intro t ht; first | (cases t <;> first | (cases ht; done) | (try simp only [Bool.not_eq_eq_eq_not, Bool.not_true, Bool.not_false, Bool.and_eq_true, Bool.and_eq_false_iff, decide_eq_true_eq, decide_eq_false_iff_not] at ht)) | (refine ht ?_ ?_ <;> clear ht) | (refine ht.1 ?_ ?_ <;> clear ht) | (refine ht ?_; clear ht))
    all_goals first
      | exact True.intro
      | (intro r h1 h2
         refine h2 ⟨[0, 4, 5], Nat, (fun i => i ≤ 40 ∧ idxF namesL s 0 = idxF (namesL.drop i) s i), fun i => [.str s, .imm fieldT tab, .int .i64 i], fun _ => [], fun i => 40 - i, ⟨0, ⟨Nat.zero_le _, rfl⟩, rfl, rfl⟩, ?_⟩
         clear h1 h2)
    rintro i ⟨hi, he⟩
    repeat' (intro t ht; first | (cases t <;> first | (cases ht; done) | (try simp only [Bool.not_eq_eq_eq_not, Bool.not_true, Bool.not_false, Bool.and_eq_true, Bool.and_eq_false_iff, decide_eq_true_eq, decide_eq_false_iff_not] at ht)) | (refine ht ?_ ?_ <;> clear ht) | (refine ht.1 ?_ ?_ <;> clear ht) | (refine ht ?_; clear ht))
    all_goals have tl := tabL
    all_goals first
      | exact True.intro
      | (refine ⟨?_, rfl⟩; have h := idxF_end (l := namesL) (s := s) (i := i) (by rw [namesLen]; omega); unfold findN findB; rw [he, h]; rfl)
      | ((try simp only [decide_eq_true_eq, decide_eq_false_iff_not, Bool.not_eq_eq_eq_not, Bool.not_true, Bool.not_false, Bool.and_eq_true, Bool.and_eq_false_iff, min_i64, max_i64, min_u64, max_u64, min_u32, max_u32, min_u16, max_u16, min_u8, max_u8] at *); omega)
      | (have hlt : i < 40 := by ((try simp only [decide_eq_true_eq, decide_eq_false_iff_not, Bool.not_eq_eq_eq_not, Bool.not_true, Bool.not_false, Bool.and_eq_true, Bool.and_eq_false_iff, min_i64, max_i64, min_u64, max_u64, min_u32, max_u32, min_u16, max_u16, min_u8, max_u8] at *); omega)
         have hn := tabName i hlt
         have hs := idxF_step (l := namesL) (s := s) (i := i) (by rw [namesLen]; exact hlt)
         have e1 : (tab.getD (i : Int).toNat fieldT.dflt).1 = namesL.getD i [] := hn
         first
           | (have e2 : s = namesL.getD i [] := ((by assumption : (tab.getD (i : Int).toNat fieldT.dflt).1 = s).symm.trans e1)
              rw [if_pos e2] at hs
              refine ⟨?_, rfl⟩
              have q1 : ¬ ((0 : Int) > i) := by omega
              have q2 : (0 : Int) ≤ i := by omega
              unfold findN findB; rw [he, hs, if_neg q1, decide_eq_true q2])
           | (have e2 : ¬ s = namesL.getD i [] := fun e => (by assumption : ¬ (tab.getD (i : Int).toNat fieldT.dflt).1 = s) (e1.trans e.symm)
              rw [if_neg e2] at hs
              exact ⟨i + 1, ⟨hlt, by rw [he, hs]⟩, by dsimp only; omega, rfl, rfl⟩))
      | trace_state
  · cases e
def S_r07_Settable : List AV → List Obj → Option (Prop × AV)
  | [.int .i64 n], [] => some ((True, .bool (settF n)))
  | _, _ => none
theorem snd_r07_Settable : SoundS Try.prog 18 (RoF S_r07_Settable).sum := by
  refine ro_fn Try.func18 ok_r07_Settable (env_cons (s := RoF S_r07_Of) snd_r07_Of (env_nil _)) fun args objs p v e => ?_
  unfold S_r07_Settable at e
  split at e
  · rename_i n
    cases e
    refine ⟨rfl, fun hw ho hp => ?_⟩
    repeat' (intro t ht; first | (cases t <;> first | (cases ht; done) | (try simp only [Bool.not_eq_eq_eq_not, Bool.not_true, Bool.not_false, Bool.and_eq_true, Bool.and_eq_false_iff, decide_eq_true_eq, decide_eq_false_iff_not] at ht)) | (refine ht ?_ ?_ <;> clear ht) | (refine ht.1 ?_ ?_ <;> clear ht) | (refine ht ?_; clear ht))
    all_goals try (try simp only [decide_eq_true_eq, decide_eq_false_iff_not, Bool.not_eq_eq_eq_not, Bool.not_true, Bool.not_false, Bool.and_eq_true, Bool.and_eq_false_iff, min_i64, max_i64, min_u64, max_u64, min_u32, max_u32, min_u16, max_u16, min_u8, max_u8] at *)
    all_goals first
      | exact True.intro
      | (refine ⟨?_, trivial⟩; unfold settF; congr 1; rw [Bool.eq_iff_iff]; first | (have h := fIs_t.1 (by assumption); simp at *; omega) | (have h := fIs_f.1 (by assumption); simp at *; omega) | (simp at *; omega))
      | trace_state
  · cases e
def recB (n : Int) : Bool := fIs n && decide (0 ≤ needR n)
def needsRf : Nat → Int → List Int
  | 0, _ => []
  | k + 1, n => match recB n with | true => needsRf k (needR n) ++ [needR n] | false => []
def needsR (n : Int) : List Int := needsRf 4 n
theorem recs : ∀ k < 40, recB (k : Nat) = true → 0 ≤ needR (k : Nat) ∧ needR (k : Nat) < (k : Nat) ∧ needsR (k : Nat) = needsR (needR (k : Nat)) ++ [needR (k : Nat)] ∧ (needsR (k : Nat)).length ≤ 3 := by decide +kernel
theorem recs_in {n : Int} (h : recB n = true) : 0 ≤ n ∧ 0 ≤ needR n ∧ needR n < n ∧ needsR n = needsR (needR n) ++ [needR n] ∧ (needsR n).length ≤ 3 := by
  have h0 : fIs n = true := by unfold recB at h; simp at h; exact h.1
  have h1 := fIs_t.1 h0
  have := recs n.toNat (by omega)
  rw [Int.toNat_of_nonneg h1.1] at this
  exact ⟨h1.1, this h⟩
theorem recs_out {n : Int} (h : recB n = false) : needsR n = [] := by unfold needsR needsRf; rw [h]
def W_r07_Needs : List AV → List Obj → Option (Prop × Res)
  | [.int .i64 n], [] => some (True, .br (recB n) (.one (.own 0) [.row false (.int .i64) (needsR n)]) (.one .nils []))
  | _, _ => none
def S_r07_Needs : List AV → List Obj → Option (Prop × AV)
  | [.int .i64 n], [] => some (True, .imm (.int .i64) (needsR n))
  | _, _ => none
theorem wnd_r07_Needs : SoundS Try.prog 14 (RcF W_r07_Needs).sum := by
  refine rc_rec (fun a => match a with | [.int .i64 n] => n.toNat | _ => 0) Try.func14 ok_r07_Needs (env_cons (s := RoF S_r07_Of) snd_r07_Of (env_nil _)) fun args objs p v e => ?_
  unfold W_r07_Needs at e
  split at e
  · rename_i n
    cases e
    refine ⟨rfl, fun hw ho hp => ?_⟩
    repeat' (intro t ht; first | (cases t <;> first | (cases ht; done) | (try simp only [Bool.not_eq_eq_eq_not, Bool.not_true, Bool.not_false, Bool.and_eq_true, Bool.and_eq_false_iff, decide_eq_true_eq, decide_eq_false_iff_not] at ht)) | (refine ht ?_ ?_ <;> clear ht) | (refine ht.1 ?_ ?_ <;> clear ht) | (refine ht ?_; clear ht))
    all_goals first
      | exact True.intro
      | (have hb : recB n = true := by (unfold recB; simp only [*, Bool.true_and, decide_eq_true_eq]; omega)
         obtain ⟨h0, h1, h2, h3, h4⟩ := recs_in hb
         first
           | (refine ⟨True.intro, ?_⟩; show (needR n).toNat < n.toNat; omega)
           | (simp only [castL, List.length_cons, List.length_nil]; omega)
           | (obtain ⟨_, _, _, _, h5⟩ := recs_in (n := needR n) (by assumption); simp only [castL, List.length_cons, List.length_nil]; omega)
           | (have h5 := recs_out (n := needR n) (by assumption); rw [hb]; refine ⟨rfl, ?_⟩; rw [h3, h5]; rfl)
           | (rw [hb]; refine ⟨rfl, ?_⟩; rw [h3]; rfl))
      | (have hb : recB n = false := by (unfold recB; simp only [*, Bool.true_and, Bool.false_and, decide_eq_false_iff_not]; try omega)
         rw [hb]; exact ⟨rfl, rfl⟩)
      | trace_state
  · cases e
theorem snd_r07_Needs : SoundS Try.prog 14 (RoF S_r07_Needs).sum := by
  refine ro_of_rc (t := .int .i64) wnd_r07_Needs fun args objs p v e => ?_
  unfold S_r07_Needs at e
  split at e
  · rename_i n
    cases e
    refine ⟨rfl, _, _, rfl, rfl, ?_⟩
    cases hb : recB n with
    | true => exact .inl rfl
    | false => exact .inr ⟨rfl, recs_out hb⟩
  · cases e
end Go.Eng
