/- Contracts of functions of the given program, told by plain Lean functions. No condition. -/
import Derived.Test.YtoejpijobbcooaaGreatDoorProg
import Derived.Test.YtoejpijobbcooaaGreatDoorEArg
import Derived.KernelRfl
import Derived.Test.YtoejpijobbcooaaGreatDoorOE
namespace Go.Eng
open Go.Proofs
set_option linter.unusedVariables false
set_option linter.unusedSimpArgs false
set_option maxRecDepth 100000
set_option maxHeartbeats 1000000
def ir_bytes_Equal : IR :=
(.seq
(.keep [0, 1]
(.reg (⟨some 4, .mov (.c (.kb false)), none⟩ ::
[])))
(.seq
(.keep [0, 1]
(.reg (⟨some 5, .mov (.t 0), none⟩ ::
⟨some 6, .b2s (.t 5), none⟩ ::
⟨some 7, .mov (.t 1), none⟩ ::
⟨some 8, .b2s (.t 7), none⟩ ::
⟨some 9, .bin .eql (.t 6) (.t 8), none⟩ ::
⟨some 4, .mov (.t 9), none⟩ ::
[])))
.ret))
def rd_bytes_Equal : List RD := [.tmp 4 true none]
theorem ok_bytes_Equal : fnOk Tryz.prog Tryz.f120 ir_bytes_Equal rd_bytes_Equal = true := by kernel_rfl
def S_bytes_Equal : List AV → List Obj → Option (Prop × AV)
  | [.imm (.int .u8) a, .imm (.int .u8) b], [] => some ((True, .bool (decide (a = b))))
  | _, _ => none
theorem snd_bytes_Equal : SoundS Tryz.prog 120 (RoF S_bytes_Equal).sum := by
  refine ro_fn Tryz.func120 ok_bytes_Equal (env_nil _) fun args objs p v e => ?_
  unfold S_bytes_Equal at e
  split at e
  · rename_i a b
    cases e
    refine ⟨rfl, fun hw ho hp => ?_⟩
    change List Int at a
    change List Int at b
    repeat' (intro t ht; first | (cases t <;> first | (cases ht; done) | ((try simp only [Bool.not_eq_eq_eq_not, Bool.not_true, Bool.not_false, Bool.and_eq_true, Bool.and_eq_false_iff, decide_eq_true_eq, decide_eq_false_iff_not] at ht); (try simp only [Int.toNat_natCast, dflt_int] at ht))) | (refine ht ?_ ?_ <;> clear ht) | (refine ht.1 ?_ ?_ <;> clear ht) | (refine ht ?_; clear ht))
    all_goals first
      | exact True.intro
      | exact ⟨rfl, rfl⟩
      | trace_state
  · cases e
def ir_oxm_Alike : IR :=
(.seq
(.keep [0, 1]
(.reg (⟨some 2, .boxv (.t 0), none⟩ ::
⟨some 3, .boxv (.t 1), none⟩ ::
⟨some 4, .mov (.c (.kb false)), none⟩ ::
[])))
(.seq
(.keep [2, 3]
(.reg (⟨some 5, .fieldAddr 0 (.t 2), none⟩ ::
⟨some 6, .load none (.t 5), none⟩ ::
⟨some 7, .fieldAddr 0 (.t 3), none⟩ ::
⟨some 8, .load none (.t 7), none⟩ ::
⟨some 9, .bin .eql (.t 6) (.t 8), none⟩ ::
⟨some 10, .mov (.t 9), none⟩ ::
⟨some 11, .fieldAddr 1 (.t 2), some (10, true)⟩ ::
⟨some 12, .load none (.t 11), some (10, true)⟩ ::
⟨some 13, .fieldAddr 1 (.t 3), some (10, true)⟩ ::
⟨some 14, .load none (.t 13), some (10, true)⟩ ::
⟨some 15, .bin .eql (.t 12) (.t 14), some (10, true)⟩ ::
⟨some 16, .pick (.t 10) (.t 15) (.c (.kb false)), none⟩ ::
⟨some 17, .mov (.t 16), none⟩ ::
⟨some 18, .fieldAddr 3 (.t 2), some (17, true)⟩ ::
⟨some 19, .load none (.t 18), some (17, true)⟩ ::
⟨some 20, .fieldAddr 3 (.t 3), some (17, true)⟩ ::
⟨some 21, .load none (.t 20), some (17, true)⟩ ::
⟨some 22, .bin .eql (.t 19) (.t 21), some (17, true)⟩ ::
⟨some 23, .pick (.t 17) (.t 22) (.c (.kb false)), none⟩ ::
⟨some 4, .mov (.t 23), none⟩ ::
[])))
.ret))
def rd_oxm_Alike : List RD := [.tmp 4 true none]
theorem ok_oxm_Alike : fnOk Tryz.prog Tryz.f112 ir_oxm_Alike rd_oxm_Alike = true := by kernel_rfl
def S_oxm_Alike : List AV → List Obj → Option (Prop × AV)
  | [.agg [.int .i64 c, .int .i64 f, .bool h, .int .u64 x, .imm (.int .u8) v, .imm (.int .u8) m], .agg [.int .i64 c', .int .i64 f', .bool h', .int .u64 x', .imm (.int .u8) v', .imm (.int .u8) m']], [] => some ((True, .bool (decide (c = c') && decide (f = f') && decide (x = x'))))
  | _, _ => none
theorem snd_oxm_Alike : SoundS Tryz.prog 112 (RoF S_oxm_Alike).sum := by
  refine ro_fn Tryz.func112 ok_oxm_Alike (env_nil _) fun args objs p v e => ?_
  unfold S_oxm_Alike at e
  split at e
  · rename_i c f h x v m c' f' h' x' v' m'
    cases e
    refine ⟨rfl, fun hw ho hp => ?_⟩
    change List Int at v
    change List Int at m
    change List Int at v
    change List Int at m
    repeat' (intro t ht; first | (cases t <;> first | (cases ht; done) | ((try simp only [Bool.not_eq_eq_eq_not, Bool.not_true, Bool.not_false, Bool.and_eq_true, Bool.and_eq_false_iff, decide_eq_true_eq, decide_eq_false_iff_not] at ht); (try simp only [Int.toNat_natCast, dflt_int] at ht))) | (refine ht ?_ ?_ <;> clear ht) | (refine ht.1 ?_ ?_ <;> clear ht) | (refine ht ?_; clear ht))
    all_goals first
      | exact True.intro
      | (simp_all; done)
      | trace_state
  · cases e
def ir_oxm_Same : IR :=
(.seq
(.keep [0, 1]
(.reg (⟨some 2, .boxv (.t 0), none⟩ ::
⟨some 3, .boxv (.t 1), none⟩ ::
⟨some 4, .mov (.c (.kb false)), none⟩ ::
[])))
(.seq
(.keep [2, 3]
(.reg (⟨some 5, .load (some 6) (.t 2), none⟩ ::
⟨some 6, .load (some 6) (.t 3), none⟩ ::
⟨some 7, .call false (.f 112) [(.t 5), (.t 6)], none⟩ ::
⟨some 8, .mov (.t 7), none⟩ ::
⟨some 9, .fieldAddr 2 (.t 2), some (8, true)⟩ ::
⟨some 10, .load none (.t 9), some (8, true)⟩ ::
⟨some 11, .fieldAddr 2 (.t 3), some (8, true)⟩ ::
⟨some 12, .load none (.t 11), some (8, true)⟩ ::
⟨some 13, .eqb false (.t 10) (.t 12), some (8, true)⟩ ::
⟨some 14, .pick (.t 8) (.t 13) (.c (.kb false)), none⟩ ::
⟨some 15, .mov (.t 14), none⟩ ::
⟨some 16, .fieldAddr 4 (.t 2), some (15, true)⟩ ::
⟨some 17, .load none (.t 16), some (15, true)⟩ ::
⟨some 18, .fieldAddr 4 (.t 3), some (15, true)⟩ ::
⟨some 19, .load none (.t 18), some (15, true)⟩ ::
⟨some 20, .call false (.f 120) [(.t 17), (.t 19)], some (15, true)⟩ ::
⟨some 21, .pick (.t 15) (.t 20) (.c (.kb false)), none⟩ ::
⟨some 22, .mov (.t 21), none⟩ ::
⟨some 23, .fieldAddr 5 (.t 2), some (22, true)⟩ ::
⟨some 24, .load none (.t 23), some (22, true)⟩ ::
⟨some 25, .fieldAddr 5 (.t 3), some (22, true)⟩ ::
⟨some 26, .load none (.t 25), some (22, true)⟩ ::
⟨some 27, .call false (.f 120) [(.t 24), (.t 26)], some (22, true)⟩ ::
⟨some 28, .pick (.t 22) (.t 27) (.c (.kb false)), none⟩ ::
⟨some 4, .mov (.t 28), none⟩ ::
[])))
.ret))
def rd_oxm_Same : List RD := [.tmp 4 true none]
theorem ok_oxm_Same : fnOk Tryz.prog Tryz.f86 ir_oxm_Same rd_oxm_Same = true := by kernel_rfl
def S_oxm_Same : List AV → List Obj → Option (Prop × AV)
  | [.agg [.int .i64 c, .int .i64 f, .bool h, .int .u64 x, .imm (.int .u8) v, .imm (.int .u8) m], .agg [.int .i64 c', .int .i64 f', .bool h', .int .u64 x', .imm (.int .u8) v', .imm (.int .u8) m']], [] => some ((True, .bool (sameO c f h x v m c' f' h' x' v' m')))
  | _, _ => none
theorem snd_oxm_Same : SoundS Tryz.prog 86 (RoF S_oxm_Same).sum := by
  refine ro_fn Tryz.func86 ok_oxm_Same (env_cons (s := RoF S_oxm_Alike) snd_oxm_Alike (env_cons (s := RoF S_bytes_Equal) snd_bytes_Equal (env_nil _))) fun args objs p v e => ?_
  unfold S_oxm_Same at e
  split at e
  · rename_i c f h x v m c' f' h' x' v' m'
    cases e
    refine ⟨rfl, fun hw ho hp => ?_⟩
    change List Int at v
    change List Int at m
    change List Int at v
    change List Int at m
    repeat' (intro t ht; first | (cases t <;> first | (cases ht; done) | ((try simp only [Bool.not_eq_eq_eq_not, Bool.not_true, Bool.not_false, Bool.and_eq_true, Bool.and_eq_false_iff, decide_eq_true_eq, decide_eq_false_iff_not] at ht); (try simp only [Int.toNat_natCast, dflt_int] at ht))) | (refine ht ?_ ?_ <;> clear ht) | (refine ht.1 ?_ ?_ <;> clear ht) | (refine ht ?_; clear ht))
    all_goals first
      | exact True.intro
      | (refine ⟨?_, rfl⟩; unfold sameO; simp_all; done)
      | (refine ⟨?_, rfl⟩; unfold sameO; cases h <;> cases h' <;> simp_all; done)
      | (refine ⟨?_, rfl⟩; unfold sameO; rcases ‹(¬c = c' ∨ ¬f = f') ∨ ¬x = x'› with (h1 | h1) | h1 <;> rw [decide_eq_false h1] <;> simp)
      | trace_state
  · cases e
def ir_oxm_Copy : IR :=
(.seq
(.keep [0]
(.reg (⟨some 1, .boxv (.t 0), none⟩ ::
⟨some 2, .box [.int .i64 0, .int .i64 0, .kb false, .int .u64 0, .imm (.int .u8) [], .imm (.int .u8) []], none⟩ ::
[])))
(.seq
(.keep [1, 2]
(.reg (⟨some 5, .fieldAddr 4 (.t 1), none⟩ ::
⟨some 6, .load none (.t 5), none⟩ ::
⟨some 7, .len (.t 6), none⟩ ::
⟨some 8, .fieldAddr 5 (.t 1), none⟩ ::
⟨some 9, .load none (.t 8), none⟩ ::
⟨some 10, .len (.t 9), none⟩ ::
⟨some 11, .bin .add (.t 7) (.t 10), none⟩ ::
⟨some 12, .mkrow (.int .u8) 1 (0 : Int) (.t 11) (.t 11), none⟩ ::
⟨some 3, .mov (.t 12), none⟩ ::
[])))
(.seq
(.keep [1, 2, 3]
(.reg (⟨some 13, .mov (.t 3), none⟩ ::
⟨some 14, .fieldAddr 4 (.t 1), none⟩ ::
⟨some 15, .load none (.t 14), none⟩ ::
⟨some 16, .copy (.int .u8) (.t 13) (.t 15), none⟩ ::
⟨some 4, .mov (.t 16), none⟩ ::
[])))
(.seq
(.keep [1, 2, 3, 4]
(.regD ((⟨some 17, .mov (.t 3), none⟩, []) ::
(⟨some 18, .mov (.t 4), none⟩, [0]) ::
(⟨some 19, .slice 1 (.t 17) (some (.t 18)) none none, none⟩, []) ::
(⟨some 20, .fieldAddr 5 (.t 1), none⟩, [0, 0, 0]) ::
(⟨some 21, .load none (.t 20), none⟩, [1, 0, 0]) ::
(⟨some 22, .copy (.int .u8) (.t 19) (.t 21), none⟩, []) ::
[])))
(.seq
(.keep [1, 2, 3, 4]
(.regD ((⟨some 23, .mov (.t 3), none⟩, []) ::
(⟨some 24, .mov (.t 4), none⟩, [0]) ::
(⟨some 25, .mov (.t 4), none⟩, [0, 0]) ::
(⟨some 26, .slice 1 (.t 23) none (some (.t 24)) (some (.t 25)), none⟩, []) ::
(⟨some 27, .mov (.t 3), none⟩, [0, 0, 0, 0]) ::
(⟨some 28, .mov (.t 4), none⟩, [0, 0, 0, 0, 0]) ::
(⟨some 29, .slice 1 (.t 27) (some (.t 28)) none none, none⟩, [2, 0, 0, 0]) ::
(⟨some 30, .fieldAddr 4 (.t 1), none⟩, [0, 0, 0]) ::
(⟨none, .store 1 (.t 30) (.t 26), none⟩, [1, 0, 0]) ::
(⟨some 31, .fieldAddr 5 (.t 1), none⟩, []) ::
(⟨none, .store 1 (.t 31) (.t 29), none⟩, []) ::
[])))
(.seq
(.keep [1, 2]
(.reg (⟨some 32, .load (some 6) (.t 1), none⟩ ::
⟨none, .store 6 (.t 2) (.t 32), none⟩ ::
[])))
.ret))))))
def rd_oxm_Copy : List RD := [.cell 2 (some 6) false []]
theorem ok_oxm_Copy : fnOk Tryz.prog Tryz.f84 ir_oxm_Copy rd_oxm_Copy = true := by kernel_rfl
def S_oxm_Copy : List AV → List Obj → Option (Prop × AV × List Obj)
  | [.agg [.int .i64 c, .int .i64 f, .bool h, .int .u64 x, .imm (.int .u8) v, .imm (.int .u8) m]], [] => some ((v.length ≤ 100000 ∧ m.length ≤ 100000, .agg [.int .i64 c, .int .i64 f, .bool h, .int .u64 x, .view 0 0 v.length, .view 0 v.length m.length], [.row false (.int .u8) (v ++ m)]))
  | _, _ => none
theorem snd_oxm_Copy : SoundS Tryz.prog 84 (RwF S_oxm_Copy).sum := by
  refine rw_fn Tryz.func84 ok_oxm_Copy (env_nil _) fun args objs p v o e => ?_
  unfold S_oxm_Copy at e
  split at e
  · rename_i c f h x v m
    cases e
    refine ⟨rfl, fun hw ho hp => ?_⟩
    change List Int at v
    change List Int at m
    have k1 : ((v.length : Int) + m.length).toNat = v.length + m.length := by omega
    have k2 : (List.replicate (v.length + m.length) (0 : Int)).length = v.length + m.length := List.length_replicate
    have k3 : v.take (v.length + m.length) = v := List.take_of_length_le (by omega)
    have k4 : (List.replicate (v.length + m.length) (0 : Int)).drop v.length = List.replicate m.length 0 := by rw [List.drop_replicate]; congr 1; omega
    have k5 : min v.length (v.length + m.length) = v.length := Nat.min_eq_left (by omega)
    have k6 : (v ++ List.replicate m.length (0 : Int)).length = v.length + m.length := by simp
    have k7 : (((v.length + m.length : Nat) : Int) - (v.length : Int)).toNat = m.length := by omega
    have k8 : (v ++ List.replicate m.length (0 : Int)).take v.length = v := List.take_left
    have k9 : m.take m.length = m := List.take_length
    have k10 : min m.length m.length = m.length := Nat.min_self _
    have k11 : (v ++ List.replicate m.length (0 : Int)).drop (v.length + m.length) = [] := List.drop_of_length_le (by simp)
    have k12 : (v ++ m).length = v.length + m.length := List.length_append
    have k13 : ((v.length : Int) - 0).toNat = v.length := by omega
    repeat' (intro t ht; first | (cases t <;> first | (cases ht; done) | ((try simp only [Bool.not_eq_eq_eq_not, Bool.not_true, Bool.not_false, Bool.and_eq_true, Bool.and_eq_false_iff, decide_eq_true_eq, decide_eq_false_iff_not] at ht); (try simp only [Int.toNat_natCast, dflt_int] at ht))) | (refine ht ?_ ?_ <;> clear ht) | (refine ht.1 ?_ ?_ <;> clear ht) | (refine ht ?_; clear ht))
    all_goals first
      | exact True.intro
      | (simp only [cast_rfl, k1, k2, k3, k4, k5, k6, k7, k8, k9, k10, k11, k12, k13, List.append_nil, Int.toNat_natCast]; first | omega | exact ⟨rfl, by first | rfl | exact True.intro⟩ | (refine ⟨?_, ?_, ?_, ?_⟩ <;> first | exact True.intro | omega))
      | omega
      | ((try simp only [Int.toNat_natCast, dflt_int, decide_eq_true_eq, decide_eq_false_iff_not, Bool.not_eq_eq_eq_not, Bool.not_true, Bool.not_false, Bool.and_eq_true, Bool.and_eq_false_iff, min_i64, max_i64, min_u64, max_u64, min_u32, max_u32, min_u16, max_u16, min_u8, max_u8] at *); omega)
      | exact ⟨rfl, by first | rfl | exact True.intro⟩
      | trace_state
  · cases e
end Go.Eng
