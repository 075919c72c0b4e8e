/- Contracts of functions of the given program, told by plain Lean functions. No condition. -/
import Derived.Test.YtcicjbcgnkbffaaF3
namespace Go.Eng
open Go.Proofs
set_option linter.unusedVariables false
set_option linter.unusedSimpArgs false
set_option maxRecDepth 100000
set_option maxHeartbeats 1000000
def refL (v : List Int) (z : Int) : Nat → Int → Bool
  | 0, _ => true
  | f + 1, i => if bitop .and .u8 ((v.getD (z - 1 - i.tdiv 8).toNat 0).fdiv (2 ^ (min (i.tmod 8).toNat 8))) 1 = 1 then false else refL v z f (i + 1)
theorem refL_t {v : List Int} {z i : Int} {f : Nat} (h : bitop .and .u8 ((v.getD (z - 1 - i.tdiv 8).toNat 0).fdiv (2 ^ (min (i.tmod 8).toNat 8))) 1 = 1) : refL v z (f + 1) i = false := if_pos h
theorem refL_f {v : List Int} {z i : Int} {f : Nat} (h : ¬ bitop .and .u8 ((v.getD (z - 1 - i.tdiv 8).toNat 0).fdiv (2 ^ (min (i.tmod 8).toNat 8))) 1 = 1) : refL v z (f + 1) i = refL v z f (i + 1) := if_neg h
def refFitsF (n : Int) (v : List Int) : Bool := if fIs n = true ∧ (v.length : Int) = sizeR n then refL v (sizeR n) (8 * sizeR n - bitsR n).toNat (bitsR n) else false
theorem tab_le : ∀ k < 40, 1 ≤ sizeR (k : Nat) ∧ sizeR (k : Nat) ≤ 16 ∧ 1 ≤ bitsR (k : Nat) ∧ bitsR (k : Nat) ≤ 8 * sizeR (k : Nat) := by decide
theorem rev_done {l x : List Int} {i : Nat} (hi : 2 * i ≤ l.length) (hj : l.length ≤ 2 * i + 1) (hx : x.length = l.length) (hk : ∀ k, k < l.length → x.getD k 0 = if k < i ∨ l.length ≤ k + i then l.getD (l.length - 1 - k) 0 else l.getD k 0) : x = l.reverse := by
  apply List.ext_getElem (by simp [hx])
  intro k h1 h2
  have h := hk k (by omega)
  rw [List.getElem_reverse]
  have e1 : x.getD k 0 = x[k] := by rw [List.getD_eq_getElem?_getD, List.getElem?_eq_getElem h1]; rfl
  have e2 : l.getD (l.length - 1 - k) 0 = l[l.length - 1 - k]'(by omega) := by rw [List.getD_eq_getElem?_getD, List.getElem?_eq_getElem (by omega)]; rfl
  rw [← e1, h, ← e2]
  split
  · rfl
  · rw [show l.length - 1 - k = k by omega]
theorem rev_step {l x : List Int} {i : Nat} (hlt : 2 * i + 1 < l.length) (hx : x.length = l.length) (hk : ∀ k, k < l.length → x.getD k 0 = if k < i ∨ l.length ≤ k + i then l.getD (l.length - 1 - k) 0 else l.getD k 0) :
    ∀ k, k < l.length → ((x.set i (x.getD (l.length - 1 - i) 0)).set (l.length - 1 - i) (x.getD i 0)).getD k 0 = if k < i + 1 ∨ l.length ≤ k + (i + 1) then l.getD (l.length - 1 - k) 0 else l.getD k 0 := fun k h => by
  have h1 := hk k h
  have h2 := hk i (by omega)
  have h3 := hk (l.length - 1 - i) (by omega)
  rw [if_neg (by omega)] at h2 h3
  rw [List.getD_eq_getElem?_getD, List.getElem?_set, List.getElem?_set]
  by_cases e1 : l.length - 1 - i = k
  · rw [if_pos e1, if_pos (by simp; omega), if_pos (by omega)]
    simp only [Option.getD_some]
    rw [h2, show l.length - 1 - k = i by omega]
  · rw [if_neg e1]
    by_cases e2 : i = k
    · rw [if_pos e2, if_pos (by omega), if_pos (by omega)]
      simp only [Option.getD_some]
      rw [h3, e2]
    · rw [if_neg e2, ← List.getD_eq_getElem?_getD, h1]
      by_cases e3 : k < i ∨ l.length ≤ k + i
      · rw [if_pos e3, if_pos (by omega)]
      · rw [if_neg e3, if_neg (by omega)]
def S_slices_Reverse_int_int : List AV → List Obj → Option (Prop × AV × List Obj)
  | [.own 0], [.row false (.int .i64) l] => some (True, .tup [], [.row false (.int .i64) l.reverse])
  | [.nils], [] => some (True, .tup [], [])
  | _, _ => none
theorem snd_slices_Reverse_int_int : SoundS Try.prog 27 (RwF S_slices_Reverse_int_int).sum := by
  refine rw_fn Try.func27 ok_slices_Reverse_int_int (env_nil _) fun args objs p v o e => ?_
  unfold S_slices_Reverse_int_int at e
  split at e
  · rename_i l
    cases e
    refine ⟨rfl, fun hw ho hp => ?_⟩
    have hl : l.length ≤ maxLen := (ho (.row false (.int .i64) l) (by simp)).2
    unfold maxLen at hl
    repeat' (intro t ht; first | (cases t <;> first | (cases ht; done) | (try simp only [Bool.not_eq_eq_eq_not, Bool.not_true, Bool.not_false, Bool.and_eq_true, Bool.and_eq_false_iff, decide_eq_true_eq, decide_eq_false_iff_not] at ht)) | (refine ht ?_ ?_ <;> clear ht) | (refine ht.1 ?_ ?_ <;> clear ht) | (refine ht ?_; clear ht))
    all_goals first
      | ((try simp only [decide_eq_true_eq, decide_eq_false_iff_not, Bool.not_eq_eq_eq_not, Bool.not_true, Bool.not_false, Bool.and_eq_true, Bool.and_eq_false_iff, min_i64, max_i64, min_u64, max_u64, min_u32, max_u32, min_u16, max_u16, min_u8, max_u8] at *); omega)
      | (intro r h1 h2
         refine h2 ⟨[0, 2, 3], Nat × Int × List Int, (fun p => 2 * p.1 ≤ l.length ∧ p.2.1 = l.length - 1 - p.1 ∧ p.2.2.length = l.length ∧ ∀ k, k < l.length → p.2.2.getD k 0 = if k < p.1 ∨ l.length ≤ k + p.1 then l.getD (l.length - 1 - k) 0 else l.getD k 0),
           fun a => [.own 0, .int .i64 a.1, .int .i64 a.2.1], fun a => [.row false (.int .i64) a.2.2], fun a => l.length - a.1, ⟨(0, l.length - 1, l), ⟨Nat.zero_le _, by simp, rfl, fun k hk => by rw [if_neg (by simp; omega)]⟩, rfl, rfl⟩, ?_⟩
         clear h1 h2)
    rintro ⟨i, j, x⟩ ⟨hi, hj, hx, hk⟩
    dsimp only at hi hj hx hk
    repeat' (intro t ht; first | (cases t <;> first | (cases ht; done) | (try simp only [Bool.not_eq_eq_eq_not, Bool.not_true, Bool.not_false, Bool.and_eq_true, Bool.and_eq_false_iff, decide_eq_true_eq, decide_eq_false_iff_not] at ht)) | (refine ht ?_ ?_ <;> clear ht) | (refine ht.1 ?_ ?_ <;> clear ht) | (refine ht ?_; clear ht))
    all_goals first
      | (refine ⟨rfl, ?_⟩; (try simp only [decide_eq_true_eq, decide_eq_false_iff_not, Bool.not_eq_eq_eq_not, Bool.not_true, Bool.not_false, Bool.and_eq_true, Bool.and_eq_false_iff, min_i64, max_i64, min_u64, max_u64, min_u32, max_u32, min_u16, max_u16, min_u8, max_u8] at *); rw [rev_done hi (by omega) hx hk])
      | ((try simp only [decide_eq_true_eq, decide_eq_false_iff_not, Bool.not_eq_eq_eq_not, Bool.not_true, Bool.not_false, Bool.and_eq_true, Bool.and_eq_false_iff, min_i64, max_i64, min_u64, max_u64, min_u32, max_u32, min_u16, max_u16, min_u8, max_u8] at *); omega)
      | ((try simp only [decide_eq_true_eq, decide_eq_false_iff_not, Bool.not_eq_eq_eq_not, Bool.not_true, Bool.not_false, Bool.and_eq_true, Bool.and_eq_false_iff, min_i64, max_i64, min_u64, max_u64, min_u32, max_u32, min_u16, max_u16, min_u8, max_u8] at *); simp only [List.length_set]; omega)
      | (have hlt : (i : Int) < j := by ((try simp only [decide_eq_true_eq, decide_eq_false_iff_not, Bool.not_eq_eq_eq_not, Bool.not_true, Bool.not_false, Bool.and_eq_true, Bool.and_eq_false_iff, min_i64, max_i64, min_u64, max_u64, min_u32, max_u32, min_u16, max_u16, min_u8, max_u8] at *); omega)
         refine ⟨(i + 1, j - 1, _), ⟨?_, ?_, ?_, ?_⟩, ?_, rfl, rfl⟩
         · dsimp only; omega
         · dsimp only; omega
         · simp only [List.length_set]; exact hx
         · have hjn : j.toNat = l.length - 1 - i := by omega
           have := rev_step (by omega) hx hk
           dsimp only
           rw [hjn, Int.toNat_natCast]
           exact this
         · dsimp only; omega)
  · cases e
    refine ⟨rfl, fun hw ho hp => ?_⟩
    repeat' (intro t ht; first | (cases t <;> first | (cases ht; done) | (try simp only [Bool.not_eq_eq_eq_not, Bool.not_true, Bool.not_false, Bool.and_eq_true, Bool.and_eq_false_iff, decide_eq_true_eq, decide_eq_false_iff_not] at ht)) | (refine ht ?_ ?_ <;> clear ht) | (refine ht.1 ?_ ?_ <;> clear ht) | (refine ht ?_; clear ht))
    all_goals first
      | ((try simp only [decide_eq_true_eq, decide_eq_false_iff_not, Bool.not_eq_eq_eq_not, Bool.not_true, Bool.not_false, Bool.and_eq_true, Bool.and_eq_false_iff, min_i64, max_i64, min_u64, max_u64, min_u32, max_u32, min_u16, max_u16, min_u8, max_u8] at *); omega)
      | (intro r h1 h2
         refine h1 ⟨1, ?_⟩
         repeat' (intro t ht; first | (cases t <;> first | (cases ht; done) | (try simp only [Bool.not_eq_eq_eq_not, Bool.not_true, Bool.not_false, Bool.and_eq_true, Bool.and_eq_false_iff, decide_eq_true_eq, decide_eq_false_iff_not] at ht)) | (refine ht ?_ ?_ <;> clear ht) | (refine ht.1 ?_ ?_ <;> clear ht) | (refine ht ?_; clear ht))
         exact ⟨rfl, rfl⟩)
  · cases e
theorem castL {t : Ty} (h : t = t) (x : List t.den) : (h ▸ x : List t.den) = x := rfl
def needsF (n : Int) : List Int := if 0 ≤ n ∧ n < 40 then (if (needF n).1 = -1 then [] else if (needF (needF n).1).1 = -1 then [(needF n).1] else if (needF (needF (needF n).1).1).1 = -1 then [(needF (needF n).1).1, (needF n).1] else [(needF (needF (needF n).1).1).1, (needF (needF n).1).1, (needF n).1]) else []
theorem need4 : ∀ k < 40, (needF (needF (needF (needF (k : Nat)).1).1).1).1 = -1 ∨ (needF (needF (needF (k : Nat)).1).1).1 = -1 ∨ (needF (needF (k : Nat)).1).1 = -1 ∨ (needF (k : Nat)).1 = -1 := by decide
def S_field_Needs : List AV → List Obj → Option (Prop × AV)
  | [.int .i64 n], [] => some (True, .imm (.int .i64) (needsF n))
  | _, _ => none
theorem snd_field_Needs : SoundS Try.prog 13 (RoF S_field_Needs).sum := by
  refine ro_fn Try.func13 ok_field_Needs (env_cons (s := RoF S_field_is) snd_field_is (env_cons (s := RoF S_field_need) snd_field_need (env_cons (s := RwF S_slices_Reverse_int_int) snd_slices_Reverse_int_int (env_nil _)))) fun args objs p v e => ?_
  unfold S_field_Needs at e
  split at e
  · rename_i n
    cases e
    refine ⟨rfl, fun hw _ hp => ?_⟩
    repeat' (intro t ht; first | (cases t <;> first | (cases ht; done) | (try simp only [Bool.not_eq_eq_eq_not, Bool.not_true, Bool.not_false, Bool.and_eq_true, Bool.and_eq_false_iff, decide_eq_true_eq, decide_eq_false_iff_not] at ht)) | (refine ht ?_ ?_ <;> clear ht) | (refine ht.1 ?_ ?_ <;> clear ht) | (refine ht ?_; clear ht))
    all_goals first
      | trivial
      | (intro r h1 h2
         refine h1 ⟨4, ?_⟩
         clear h1 h2)
      | (refine ⟨?_, rfl⟩; (try simp only [decide_eq_true_eq, decide_eq_false_iff_not, Bool.not_eq_eq_eq_not, Bool.not_true, Bool.not_false, Bool.and_eq_true, Bool.and_eq_false_iff, min_i64, max_i64, min_u64, max_u64, min_u32, max_u32, min_u16, max_u16, min_u8, max_u8] at *); unfold needsF; rw [if_neg (fIs_f.1 (by assumption))])
    repeat' (intro t ht; first | (cases t <;> first | (cases ht; done) | (try simp only [Bool.not_eq_eq_eq_not, Bool.not_true, Bool.not_false, Bool.and_eq_true, Bool.and_eq_false_iff, decide_eq_true_eq, decide_eq_false_iff_not] at ht)) | (refine ht ?_ ?_ <;> clear ht) | (refine ht.1 ?_ ?_ <;> clear ht) | (refine ht ?_; clear ht))
    all_goals first
      | trivial
      | (simp only [castL, List.length_append, List.length_cons, List.length_nil]; omega)
      | (have hc : 0 ≤ n ∧ n < 40 := fIs_t.1 (by assumption)
         refine ⟨?_, rfl⟩
         unfold needsF
         rw [if_pos hc]
         (try simp only [decide_eq_true_eq, decide_eq_false_iff_not, Bool.not_eq_eq_eq_not, Bool.not_true, Bool.not_false, Bool.and_eq_true, Bool.and_eq_false_iff, min_i64, max_i64, min_u64, max_u64, min_u32, max_u32, min_u16, max_u16, min_u8, max_u8] at *)
         simp only [*, if_true, if_false, castL]
         done)
      | (have hc : 0 ≤ n ∧ n < 40 := fIs_t.1 (by assumption)
         refine ⟨?_, rfl⟩
         unfold needsF
         rw [if_pos hc]
         (try simp only [decide_eq_true_eq, decide_eq_false_iff_not, Bool.not_eq_eq_eq_not, Bool.not_true, Bool.not_false, Bool.and_eq_true, Bool.and_eq_false_iff, min_i64, max_i64, min_u64, max_u64, min_u32, max_u32, min_u16, max_u16, min_u8, max_u8] at *)
         simp only [*, if_true, if_false, castL]
         rfl)
      | (exfalso; (try simp only [decide_eq_true_eq, decide_eq_false_iff_not, Bool.not_eq_eq_eq_not, Bool.not_true, Bool.not_false, Bool.and_eq_true, Bool.and_eq_false_iff, min_i64, max_i64, min_u64, max_u64, min_u32, max_u32, min_u16, max_u16, min_u8, max_u8] at *)
         have hc : 0 ≤ n ∧ n < 40 := fIs_t.1 (by assumption)
         have h4 := need4 n.toNat (by omega)
         rw [Int.toNat_of_nonneg (by omega)] at h4
         omega)
      | trace_state
  · cases e
end Go.Eng
