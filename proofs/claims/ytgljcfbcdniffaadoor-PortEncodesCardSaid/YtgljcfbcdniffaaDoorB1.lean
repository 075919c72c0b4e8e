/- Contracts of functions of the given program, told by plain Lean functions. No condition. -/
import Derived.Test.YtgljcfbcdniffaaDoorProg
import Derived.Test.YtgljcfbcdniffaaDoorESum
import Derived.KernelRfl
import Derived.Test.YtgljcfbcdniffaaDoorC1
namespace Go.Eng
open Go.Proofs
set_option linter.unusedVariables false
set_option linter.unusedSimpArgs false
set_option maxRecDepth 100000
set_option maxHeartbeats 1000000
def ir_buffer_Buffer_none : IR :=
 (.seq
  (.keep [0]
  (.reg ((⟨(some 2), .mov (.c (.kb false)), none⟩ : IOper) ::
    [])))
  (.seq
   (.keep [0]
   (.reg ((⟨(some 3), .mov (.t 0), none⟩ : IOper) ::
     (⟨(some 4), .eqp false (.t 3) (.c (.nilp)), none⟩ : IOper) ::
     (⟨(some 5), .mov (.t 4), none⟩ : IOper) ::
     (⟨(some 6), .mov (.t 0), (some (5, false))⟩ : IOper) ::
     (⟨(some 7), .nilck (.t 6), (some (5, false))⟩ : IOper) ::
     (⟨(some 8), .fieldAddr 2 (.t 7), (some (5, false))⟩ : IOper) ::
     (⟨(some 9), .load none (.t 8), (some (5, false))⟩ : IOper) ::
     (⟨(some 10), .eqn false (.t 9) (.c (.nilm)), (some (5, false))⟩ : IOper) ::
     (⟨(some 11), .pick (.t 5) (.c (.kb true)) (.t 10), none⟩ : IOper) ::
     (⟨(some 2), .mov (.t 11), none⟩ : IOper) ::
     [])))
   .ret))
def rd_buffer_Buffer_none : List RD := [.tmp 2 true none]
theorem ok_buffer_Buffer_none : fnOk Tryd.prog Tryd.f61 ir_buffer_Buffer_none rd_buffer_Buffer_none = true := by kernel_rfl
def S_buffer_Buffer_none : List AV → List Obj → Option (Prop × AV)
  | [.ptr 0 0], [.box [.own 1, .int .i64 room, .mapv 2, .int .i64 e], .row false (.int .u8) l, .map sq (.int .i64) (.int .i64) h] => some ((True, .bool false))
  | _, _ => none
theorem snd_buffer_Buffer_none : SoundS Tryd.prog 61 (RoF S_buffer_Buffer_none).sum := by
  refine ro_fn Tryd.func61 ok_buffer_Buffer_none (env_nil _) fun args objs p v e => ?_
  unfold S_buffer_Buffer_none at e
  split at e
  · rename_i room e l sq h
    cases e
    refine ⟨rfl, fun hw ho hp => ?_⟩
    change List Int at l
    repeat' (intro t ht; first | (cases t <;> first | (cases ht; done) | ((try simp only [Bool.not_eq_eq_eq_not, Bool.not_true, Bool.not_false, Bool.and_eq_true, Bool.and_eq_false_iff, decide_eq_true_eq, decide_eq_false_iff_not] at ht); (try simp only [Int.toNat_natCast, dflt_int] at ht))) | (refine ht ?_ ?_ <;> clear ht) | (refine ht.1 ?_ ?_ <;> clear ht) | (refine ht ?_; clear ht))
    all_goals exact ⟨rfl, rfl⟩
  · cases e
def roomF (n : Int) : Int := if 1000000 < (if 0 > n then 0 else n) then 1000000 else (if 0 > n then 0 else n)
def ir_buffer_New : IR :=
 (.seq
  (.keep [0]
  (.reg ((⟨(some 2), .mov (.c (.nilp)), none⟩ : IOper) ::
    [])))
  (.seq
   (.keep [0]
   (.reg ((⟨(some 3), .mov (.t 0), none⟩ : IOper) ::
     (⟨(some 4), .minmax true (.t 3) (.c (.int .i64 0)), none⟩ : IOper) ::
     (⟨(some 5), .minmax false (.t 4) (.c (.int .i64 1000000)), none⟩ : IOper) ::
     (⟨(some 6), .mkmap (.int .i64) (.int .i64), none⟩ : IOper) ::
     (⟨(some 7), .build [.nils, .int .i64 0, .nilm, .int .i64 0] [(1, 1, (.t 5)), (2, 1, (.t 6))], none⟩ : IOper) ::
     (⟨(some 8), .boxv (.t 7), none⟩ : IOper) ::
     (⟨(some 2), .mov (.t 8), none⟩ : IOper) ::
     [])))
   .ret))
def rd_buffer_New : List RD := [.tmp 2 true none]
theorem ok_buffer_New : fnOk Tryd.prog Tryd.f30 ir_buffer_New rd_buffer_New = true := by kernel_rfl
def N_buffer_New : List AV → List Obj → Option (Prop × AV × List Obj)
  | [.int .i64 n], [] => some (True, .ptr 0 0, [.box [.nils, .int .i64 (roomF n), .mapv 1, .int .i64 0], .map true (.int .i64) (.int .i64) ([])])
  | _, _ => none
def S_buffer_New : List AV → List Obj → Option (Prop × AV × List Obj)
  | [.int .i64 n], [] => some (True, .ptr 0 0, [.box [.own 2, .int .i64 (roomF n), .mapv 1, .int .i64 0], .map true (.int .i64) (.int .i64) ([]), .row false (.int .u8) ([])])
  | _, _ => none
theorem snd_buffer_New : SoundS Tryd.prog 30 (RwF S_buffer_New).sum := by
  have h0 : SoundS Tryd.prog 30 (RwF N_buffer_New).sum := by
    refine rw_fn Tryd.func30 ok_buffer_New (env_nil _) fun args objs p v o e => ?_
    unfold N_buffer_New at e
    split at e
    · rename_i n
      cases e
      refine ⟨rfl, fun hw ho hp => ?_⟩
      repeat' (intro t ht; first | (cases t <;> first | (cases ht; done) | ((try simp only [Bool.not_eq_eq_eq_not, Bool.not_true, Bool.not_false, Bool.and_eq_true, Bool.and_eq_false_iff, decide_eq_true_eq, decide_eq_false_iff_not] at ht); (try simp only [Int.toNat_natCast, dflt_int] at ht))) | (refine ht ?_ ?_ <;> clear ht) | (refine ht.1 ?_ ?_ <;> clear ht) | (refine ht ?_; clear ht))
      all_goals exact ⟨rfl, rfl⟩
    · cases e
  refine own_of_nils (t := .int .u8) h0 fun args objs p v o e => ?_
  unfold S_buffer_New at e
  split at e
  · rename_i n
    cases e
    exact ⟨0, [], [.int .i64 (roomF n), .mapv 1, .int .i64 0], _, rfl, rfl, rfl⟩
  · cases e
def ir_buffer_Buffer_Fail : IR :=
 (.seq
  (.keep [0, 1]
  (.reg ((⟨(some 4), .mov (.t 0), none⟩ : IOper) ::
    (⟨(some 5), .call false (.f 61) [(.t 4)], none⟩ : IOper) ::
    (⟨(some 6), .un .not (.t 5), none⟩ : IOper) ::
    (⟨(some 7), .mov (.t 6), none⟩ : IOper) ::
    (⟨(some 8), .mov (.t 0), (some (7, true))⟩ : IOper) ::
    (⟨(some 9), .nilck (.t 8), (some (7, true))⟩ : IOper) ::
    (⟨(some 10), .fieldAddr 3 (.t 9), (some (7, true))⟩ : IOper) ::
    (⟨(some 11), .load none (.t 10), (some (7, true))⟩ : IOper) ::
    (⟨(some 12), .bin .eql (.t 11) (.c (.int .i64 0)), (some (7, true))⟩ : IOper) ::
    (⟨(some 13), .pick (.t 7) (.t 12) (.c (.kb false)), none⟩ : IOper) ::
    [])))
  (.cond (.t 13)
   (.keep [0, 1]
   (.reg ((⟨(some 14), .mov (.t 0), none⟩ : IOper) ::
     (⟨(some 15), .mov (.t 1), none⟩ : IOper) ::
     (⟨(some 16), .nilck (.t 14), none⟩ : IOper) ::
     (⟨(some 17), .fieldAddr 3 (.t 16), none⟩ : IOper) ::
     (⟨none, .store 1 (.t 17) (.t 15), none⟩ : IOper) ::
     [])))
   .skip))
def rd_buffer_Buffer_Fail : List RD := []
theorem ok_buffer_Buffer_Fail : fnOk Tryd.prog Tryd.f62 ir_buffer_Buffer_Fail rd_buffer_Buffer_Fail = true := by kernel_rfl
def S_buffer_Buffer_Fail : List AV → List Obj → Option (Prop × AV × List Obj)
  | [.ptr 0 0, .int .i64 x], [.box [.own 1, .int .i64 room, .mapv 2, .int .i64 e], .row false (.int .u8) l, .map sq (.int .i64) (.int .i64) h] => some ((True, .tup [], [.box [.own 1, .int .i64 room, .mapv 2, .int .i64 (failE e x)], .row false (.int .u8) l, .map sq (.int .i64) (.int .i64) h]))
  | _, _ => none
theorem snd_buffer_Buffer_Fail : SoundS Tryd.prog 62 (RwF S_buffer_Buffer_Fail).sum := by
  refine rw_fn Tryd.func62 ok_buffer_Buffer_Fail (env_cons (s := RoF S_buffer_Buffer_none) snd_buffer_Buffer_none (env_nil _)) fun args objs p v o e => ?_
  unfold S_buffer_Buffer_Fail at e
  split at e
  · rename_i x room e l sq h
    cases e
    refine ⟨rfl, fun hw ho hp => ?_⟩
    change List Int at l
    repeat' (intro t ht; first | (cases t <;> first | (cases ht; done) | ((try simp only [Bool.not_eq_eq_eq_not, Bool.not_true, Bool.not_false, Bool.and_eq_true, Bool.and_eq_false_iff, decide_eq_true_eq, decide_eq_false_iff_not] at ht); (try simp only [Int.toNat_natCast, dflt_int] at ht))) | (refine ht ?_ ?_ <;> clear ht) | (refine ht.1 ?_ ?_ <;> clear ht) | (refine ht ?_; clear ht))
    all_goals first
      | exact True.intro
      | (unfold failE; simp_all; done)
      | trace_state
  · cases e
end Go.Eng
