/- Contracts of functions of the given program, told by plain Lean functions. No condition. -/
import Derived.Test.YtoejpijobbcooaaGreatDoorProg
import Derived.Test.YtoejpijobbcooaaGreatDoorEArg
import Derived.KernelRfl
import Derived.Test.YtoejpijobbcooaaGreatDoorF4
namespace Go.Eng
open Go.Proofs
set_option linter.unusedVariables false
set_option linter.unusedSimpArgs false
set_option maxRecDepth 100000
set_option maxHeartbeats 1000000
theorem tabName : ∀ i < 40, (tab.getD i fieldT.dflt).1 = namesL.getD i [] := by decide +kernel
theorem namesLen : namesL.length = 40 := rfl
def ir_r07_Settable : IR :=
(.seq
(.keep [0]
(.reg (⟨some 2, .mov (.c (.kb false)), none⟩ ::
[])))
(.seq
(.keep [0]
(.reg (⟨some 6, .mov (.t 0), none⟩ ::
⟨some 7, .call false (.f 116) [(.t 6)], none⟩ ::
⟨some 5, .mov (.t 7), none⟩ ::
⟨some 8, .extract (.t 5) 0, none⟩ ::
⟨some 9, .extract (.t 5) 1, none⟩ ::
⟨some 3, .box [.str [], .int .i64 0, .int .i64 0, .kb false, .int .i64 0, .imm (.int .u64) []], none⟩ ::
⟨none, .store 6 (.t 3) (.t 8), none⟩ ::
⟨some 4, .mov (.t 9), none⟩ ::
[])))
(.seq
(.keep [0, 4]
(.reg (⟨some 10, .mov (.t 4), none⟩ ::
⟨some 11, .mov (.t 10), none⟩ ::
⟨some 12, .mov (.t 0), some (11, true)⟩ ::
⟨some 13, .bin .gtr (.t 12) (.c (.int .i64 2)), some (11, true)⟩ ::
⟨some 14, .pick (.t 11) (.t 13) (.c (.kb false)), none⟩ ::
⟨some 15, .mov (.t 14), none⟩ ::
⟨some 16, .mov (.t 0), some (15, true)⟩ ::
⟨some 17, .bin .neq (.t 16) (.c (.int .i64 39)), some (15, true)⟩ ::
⟨some 18, .pick (.t 15) (.t 17) (.c (.kb false)), none⟩ ::
⟨some 2, .mov (.t 18), none⟩ ::
[])))
.ret)))
def rd_r07_Settable : List RD := [.tmp 2 true none]
theorem ok_r07_Settable : fnOk Tryz.prog Tryz.f91 ir_r07_Settable rd_r07_Settable = true := by kernel_rfl
def S_r07_Settable : List AV → List Obj → Option (Prop × AV)
  | [.int .i64 n], [] => some ((True, .bool (settF n)))
  | _, _ => none
theorem snd_r07_Settable : SoundS Tryz.prog 91 (RoF S_r07_Settable).sum := by
  refine ro_fn Tryz.func91 ok_r07_Settable (env_cons (s := RoF S_r07_Of) snd_r07_Of (env_nil _)) fun args objs p v e => ?_
  unfold S_r07_Settable at e
  split at e
  · rename_i n
    cases e
    refine ⟨rfl, fun hw ho hp => ?_⟩
    repeat' (intro t ht; first | (cases t <;> first | (cases ht; done) | ((try simp only [Bool.not_eq_eq_eq_not, Bool.not_true, Bool.not_false, Bool.and_eq_true, Bool.and_eq_false_iff, decide_eq_true_eq, decide_eq_false_iff_not] at ht); (try simp only [Int.toNat_natCast, dflt_int] at ht))) | (refine ht ?_ ?_ <;> clear ht) | (refine ht.1 ?_ ?_ <;> clear ht) | (refine ht ?_; clear ht))
    all_goals try (try simp only [Int.toNat_natCast, dflt_int, decide_eq_true_eq, decide_eq_false_iff_not, Bool.not_eq_eq_eq_not, Bool.not_true, Bool.not_false, Bool.and_eq_true, Bool.and_eq_false_iff, min_i64, max_i64, min_u64, max_u64, min_u32, max_u32, min_u16, max_u16, min_u8, max_u8] at *)
    all_goals first
      | exact True.intro
      | (refine ⟨?_, trivial⟩; unfold settF; congr 1; rw [Bool.eq_iff_iff]; first | (have h := fIs_t.1 (by assumption); simp at *; omega) | (have h := fIs_f.1 (by assumption); simp at *; omega) | (simp at *; omega))
      | trace_state
  · cases e
def recB (n : Int) : Bool := fIs n && decide (0 ≤ needR n)
def needsRf : Nat → Int → List Int
  | 0, _ => []
  | k + 1, n => match recB n with | true => needsRf k (needR n) ++ [needR n] | false => []
def needsR (n : Int) : List Int := needsRf 4 n
theorem recs : ∀ k < 40, recB (k : Nat) = true → 0 ≤ needR (k : Nat) ∧ needR (k : Nat) < (k : Nat) ∧ needsR (k : Nat) = needsR (needR (k : Nat)) ++ [needR (k : Nat)] ∧ (needsR (k : Nat)).length ≤ 3 := by decide +kernel
theorem recs_in {n : Int} (h : recB n = true) : 0 ≤ n ∧ 0 ≤ needR n ∧ needR n < n ∧ needsR n = needsR (needR n) ++ [needR n] ∧ (needsR n).length ≤ 3 := by
  have h0 : fIs n = true := by unfold recB at h; simp at h; exact h.1
  have h1 := fIs_t.1 h0
  have := recs n.toNat (by omega)
  rw [Int.toNat_of_nonneg h1.1] at this
  exact ⟨h1.1, this h⟩
theorem recs_out {n : Int} (h : recB n = false) : needsR n = [] := by unfold needsR needsRf; rw [h]
def W_r07_Needs : List AV → List Obj → Option (Prop × Res)
  | [.int .i64 n], [] => some (True, .br (recB n) (.one (.own 0) [.row false (.int .i64) (needsR n)]) (.one .nils []))
  | _, _ => none
end Go.Eng
