/- Contracts of functions of the given program, told by plain Lean functions. No condition. -/
import Derived.Test.YtgljcfbcdniffaaDoorProg
import Derived.Test.YtgljcfbcdniffaaDoorESum
import Derived.KernelRfl
import Derived.Test.YtgljcfbcdniffaaDoorB1
namespace Go.Eng
open Go.Proofs
set_option linter.unusedVariables false
set_option linter.unusedSimpArgs false
set_option maxRecDepth 100000
set_option maxHeartbeats 1000000
def bufOk (x l : List Int) (room e : Int) : Bool := decide (e = 0) && decide ((x.length : Int) ≤ room - l.length)
def bufB (x l : List Int) (room e : Int) : List Int := if bufOk x l room e = true then l ++ x else l
def bufE (x l : List Int) (room e : Int) : Int := if e = 0 then (if (x.length : Int) ≤ room - l.length then 0 else 10003) else e
def ir_buffer_Buffer_Bytes : IR :=
 (.block 0
  (.seq
   (.keep [0, 1]
   (.reg ((⟨(some 14), .mov (.t 0), none⟩ : IOper) ::
     (⟨(some 15), .call false (.f 61) [(.t 14)], none⟩ : IOper) ::
     (⟨(some 16), .mov (.t 15), none⟩ : IOper) ::
     (⟨(some 17), .mov (.t 0), (some (16, false))⟩ : IOper) ::
     (⟨(some 18), .nilck (.t 17), (some (16, false))⟩ : IOper) ::
     (⟨(some 19), .fieldAddr 3 (.t 18), (some (16, false))⟩ : IOper) ::
     (⟨(some 20), .load none (.t 19), (some (16, false))⟩ : IOper) ::
     (⟨(some 21), .bin .neq (.t 20) (.c (.int .i64 0)), (some (16, false))⟩ : IOper) ::
     (⟨(some 22), .pick (.t 16) (.c (.kb true)) (.t 21), none⟩ : IOper) ::
     (⟨(some 13), .mov (.t 22), none⟩ : IOper) ::
     [])))
   (.cond (.t 13)
    .skip
    (.seq
     (.keep [0, 1]
     (.regD (((⟨(some 24), .mov (.t 1), none⟩, []) : IOper × List Nat) ::
       ((⟨(some 25), .len (.t 24), none⟩, []) : IOper × List Nat) ::
       ((⟨(some 26), .mov (.t 0), none⟩, [0, 0]) : IOper × List Nat) ::
       ((⟨(some 27), .nilck (.t 26), none⟩, [1, 0]) : IOper × List Nat) ::
       ((⟨(some 28), .fieldAddr 1 (.t 27), none⟩, [2, 0]) : IOper × List Nat) ::
       ((⟨(some 29), .load none (.t 28), none⟩, [3, 0]) : IOper × List Nat) ::
       ((⟨(some 30), .mov (.t 0), none⟩, [0, 0, 0, 0, 0, 0]) : IOper × List Nat) ::
       ((⟨(some 31), .nilck (.t 30), none⟩, [1, 0, 0, 0, 0, 0]) : IOper × List Nat) ::
       ((⟨(some 32), .fieldAddr 0 (.t 31), none⟩, [2, 0, 0, 0, 0, 0]) : IOper × List Nat) ::
       ((⟨(some 33), .load none (.t 32), none⟩, [3, 0, 0, 0, 0, 0]) : IOper × List Nat) ::
       ((⟨(some 34), .len (.t 33), none⟩, [4, 0, 0, 0, 0, 0]) : IOper × List Nat) ::
       ((⟨(some 35), .bin .sub (.t 29) (.t 34), none⟩, [9, 0]) : IOper × List Nat) ::
       ((⟨(some 36), .bin .gtr (.t 25) (.t 35), none⟩, []) : IOper × List Nat) ::
       ((⟨(some 23), .mov (.t 36), none⟩, []) : IOper × List Nat) ::
       [])))
     (.cond (.t 23)
      (.keep [0]
      (.reg ((⟨(some 37), .mov (.t 0), none⟩ : IOper) ::
        (⟨(some 38), .call false (.f 62) [(.t 37), (.c (.int .i64 10003))], none⟩ : IOper) ::
        [])))
      (.keep [0, 1]
      (.reg ((⟨(some 4), .mov (.t 0), none⟩ : IOper) ::
        (⟨(some 5), .mov (.t 0), none⟩ : IOper) ::
        (⟨(some 6), .nilck (.t 5), none⟩ : IOper) ::
        (⟨(some 7), .fieldAddr 0 (.t 6), none⟩ : IOper) ::
        (⟨(some 8), .load none (.t 7), none⟩ : IOper) ::
        (⟨(some 9), .mov (.t 1), none⟩ : IOper) ::
        (⟨(some 10), .append (.int .u8) 1 (.t 8) (.t 9), none⟩ : IOper) ::
        (⟨(some 11), .nilck (.t 4), none⟩ : IOper) ::
        (⟨(some 12), .fieldAddr 0 (.t 11), none⟩ : IOper) ::
        (⟨none, .store 1 (.t 12) (.t 10), none⟩ : IOper) ::
        []))))))))
def rd_buffer_Buffer_Bytes : List RD := []
theorem ok_buffer_Buffer_Bytes : fnOk Tryd.prog Tryd.f31 ir_buffer_Buffer_Bytes rd_buffer_Buffer_Bytes = true := by kernel_rfl
def W_buffer_Buffer_Bytes : List AV → List Obj → Option (Prop × Res)
  | [.ptr 0 0, .imm (.int .u8) x], [.box [.own 1, .int .i64 room, .mapv 2, .int .i64 e], .row false (.int .u8) l, .map sq (.int .i64) (.int .i64) h] => some (0 ≤ room ∧ room ≤ 1000000 ∧ l.length ≤ 1000000 ∧ x.length ≤ 1000000, .br (bufOk x l room e) (.one (.tup []) [.box [.own 3, .int .i64 room, .mapv 2, .int .i64 e], .dead, .map sq (.int .i64) (.int .i64) h, .row false (.int .u8) (bufB x l room e)]) (.one (.tup []) [.box [.own 1, .int .i64 room, .mapv 2, .int .i64 (bufE x l room e)], .row false (.int .u8) l, .map sq (.int .i64) (.int .i64) h]))
  | _, _ => none
def S_buffer_Buffer_Bytes : List AV → List Obj → Option (Prop × AV × List Obj)
  | [.ptr 0 0, .imm (.int .u8) x], [.box [.own 1, .int .i64 room, .mapv 2, .int .i64 e], .row false (.int .u8) l, .map sq (.int .i64) (.int .i64) h] => some (0 ≤ room ∧ room ≤ 1000000 ∧ l.length ≤ 1000000 ∧ x.length ≤ 1000000, .tup [], [.box [.own 3, .int .i64 room, .mapv 2, .int .i64 (bufE x l room e)], .dead, .map sq (.int .i64) (.int .i64) h, .row false (.int .u8) (bufB x l room e)])
  | _, _ => none
theorem wnd_buffer_Buffer_Bytes : SoundS Tryd.prog 31 (RcF W_buffer_Buffer_Bytes).sum := by
  refine rc_fn Tryd.func31 ok_buffer_Buffer_Bytes (env_cons (s := RoF S_buffer_Buffer_none) snd_buffer_Buffer_none (env_cons (s := RwF S_buffer_Buffer_Fail) snd_buffer_Buffer_Fail (env_nil _))) fun args objs p v e => ?_
  unfold W_buffer_Buffer_Bytes at e
  split at e
  · rename_i x room e l sq h
    cases e
    change List Int at x
    change List Int at l
    refine ⟨rfl, fun hw ho hp => ?_⟩
    repeat' (intro t ht; first | (cases t <;> first | (cases ht; done) | ((try simp only [Bool.not_eq_eq_eq_not, Bool.not_true, Bool.not_false, Bool.and_eq_true, Bool.and_eq_false_iff, decide_eq_true_eq, decide_eq_false_iff_not] at ht); (try simp only [Int.toNat_natCast, dflt_int] at ht))) | (refine ht ?_ ?_ <;> clear ht) | (refine ht.1 ?_ ?_ <;> clear ht) | (refine ht ?_; clear ht))
    all_goals first
      | exact True.intro
      | ((try simp only [Int.toNat_natCast, dflt_int, decide_eq_true_eq, decide_eq_false_iff_not, Bool.not_eq_eq_eq_not, Bool.not_true, Bool.not_false, Bool.and_eq_true, Bool.and_eq_false_iff, min_i64, max_i64, min_u64, max_u64, min_u32, max_u32, min_u16, max_u16, min_u8, max_u8] at *); omega)
      | (simp only [cast_rfl]; omega)
      | (have hb : bufOk x l room e = true := by unfold bufOk; simp only [Bool.and_eq_true, decide_eq_true_eq]; omega
         have hbb : bufB x l room e = l ++ x := by unfold bufB; rw [hb]; rfl
         rw [pick_t hb, hbb]; exact ⟨rfl, rfl⟩)
      | (have hb : bufOk x l room e = false := by unfold bufOk; simp only [Bool.and_eq_false_iff, decide_eq_false_iff_not]; omega
         rw [pick_f hb]
         unfold bufE
         first
           | (rw [if_neg (by assumption)]; exact ⟨rfl, rfl⟩)
           | (have h0 : e = 0 := by assumption
              have h1 : ¬ (x.length : Int) ≤ room - l.length := by omega
              rw [if_pos h0, if_neg h1]
              refine ⟨rfl, ?_⟩; unfold failE; rw [if_pos h0]; rfl))
      | trace_state
  · cases e
theorem snd_buffer_Buffer_Bytes : SoundS Tryd.prog 31 (RwF S_buffer_Buffer_Bytes).sum := by
  refine rc_move wnd_buffer_Buffer_Bytes fun args objs p v o e => ?_
  unfold S_buffer_Buffer_Bytes at e
  split at e
  · rename_i x room e l sq h
    cases e
    cases hb : bufOk x l room e with
    | true =>
      have h1 : e = 0 := by unfold bufOk at hb; simp_all
      have h2 : (x.length : Int) ≤ room - l.length := by unfold bufOk at hb; simp_all
      refine ⟨_, _, rfl, pick_t hb, .inl ?_⟩
      unfold bufE; rw [if_pos h1, if_pos h2, h1]
    | false =>
      refine ⟨_, _, rfl, pick_f hb, .inr ⟨0, 1, [], [.int .i64 room, .mapv 2, .int .i64 (bufE x l room e)], .int .u8, l, rfl, rfl, ?_⟩⟩
      have hbb : bufB x l room e = l := by unfold bufB; rw [hb]; rfl
      rw [hbb]; rfl
  · cases e
end Go.Eng
