/- Contracts of functions of the given program, told by plain Lean functions. No condition. -/
import Derived.Test.YtmbcgankddgpjaaDoorProg
import Derived.Test.YtmbcgankddgpjaaDoorEArg
import Derived.KernelRfl
import Derived.Test.YtmbcgankddgpjaaDoorOE
namespace Go.Eng
open Go.Proofs
set_option linter.unusedVariables false
set_option linter.unusedSimpArgs false
set_option maxRecDepth 100000
set_option maxHeartbeats 1000000
def ir_bytes_Equal : IR :=
(.seq
(.keep [0, 1]
(.reg (oD 4 (.mov cF) ::
[])))
(.seq
(.keep [0, 1]
(.reg (oM 5 0 ::
oD 6 (.b2s (.t 5)) ::
oM 7 1 ::
oD 8 (.b2s (.t 7)) ::
oD 9 (.bin .eql (.t 6) (.t 8)) ::
oM 4 9 ::
[])))
.ret))
def rd_bytes_Equal : List RD := [.tmp 4 true none]
theorem ok_bytes_Equal : fnOk Tryd.prog Tryd.f121 ir_bytes_Equal rd_bytes_Equal = true := by kernel_rfl
def S_bytes_Equal : List AV → List Obj → Option (Prop × AV)
  | [.imm (.int .u8) a, .imm (.int .u8) b], [] => some ((True, .bool (decide (a = b))))
  | _, _ => none
theorem snd_bytes_Equal : SoundS Tryd.prog 121 (RoF S_bytes_Equal).sum := by
  refine ro_fn Tryd.func121 ok_bytes_Equal (env_nil _) fun args objs p v e => ?_
  unfold S_bytes_Equal at e
  split at e
  · rename_i a b
    cases e
    refine ⟨rfl, fun hw ho hp => ?_⟩
    change List Int at a
    change List Int at b
    repeat' (intro t ht; first | (cases t <;> first | (cases ht; done) | ((try simp only [bn_s] at ht); (try simp only [nd_s] at ht))) | (refine ht ?_ ?_ <;> clear ht) | (refine ht.1 ?_ ?_ <;> clear ht) | (refine ht ?_; clear ht))
    all_goals first
      | exact True.intro
      | exact ⟨rfl, rfl⟩
      | trace_state
  · cases e
def ir_oxm_Alike : IR :=
(.seq
(.keep [0, 1]
(.reg (oD 2 (.boxv (.t 0)) ::
oD 3 (.boxv (.t 1)) ::
oD 4 (.mov cF) ::
[])))
(.seq
(.keep [2, 3]
(.reg (oD 5 (.fieldAddr 0 (.t 2)) ::
oL 6 5 ::
oD 7 (.fieldAddr 0 (.t 3)) ::
oL 8 7 ::
oD 9 (.bin .eql (.t 6) (.t 8)) ::
oM 10 9 ::
oT 10 11 (.fieldAddr 1 (.t 2)) ::
oT 10 12 (.load none (.t 11)) ::
oT 10 13 (.fieldAddr 1 (.t 3)) ::
oT 10 14 (.load none (.t 13)) ::
oT 10 15 (.bin .eql (.t 12) (.t 14)) ::
oD 16 (.pick (.t 10) (.t 15) cF) ::
oM 17 16 ::
oT 17 18 (.fieldAddr 3 (.t 2)) ::
oT 17 19 (.load none (.t 18)) ::
oT 17 20 (.fieldAddr 3 (.t 3)) ::
oT 17 21 (.load none (.t 20)) ::
oT 17 22 (.bin .eql (.t 19) (.t 21)) ::
oD 23 (.pick (.t 17) (.t 22) cF) ::
oM 4 23 ::
[])))
.ret))
def rd_oxm_Alike : List RD := [.tmp 4 true none]
theorem ok_oxm_Alike : fnOk Tryd.prog Tryd.f79 ir_oxm_Alike rd_oxm_Alike = true := by kernel_rfl
def S_oxm_Alike : List AV → List Obj → Option (Prop × AV)
  | [.agg [.int .i64 c, .int .i64 f, .bool h, .int .u64 x, .imm (.int .u8) v, .imm (.int .u8) m], .agg [.int .i64 c', .int .i64 f', .bool h', .int .u64 x', .imm (.int .u8) v', .imm (.int .u8) m']], [] => some ((True, .bool (decide (c = c') && decide (f = f') && decide (x = x'))))
  | _, _ => none
theorem snd_oxm_Alike : SoundS Tryd.prog 79 (RoF S_oxm_Alike).sum := by
  refine ro_fn Tryd.func79 ok_oxm_Alike (env_nil _) fun args objs p v e => ?_
  unfold S_oxm_Alike at e
  split at e
  · rename_i c f h x v m c' f' h' x' v' m'
    cases e
    refine ⟨rfl, fun hw ho hp => ?_⟩
    change List Int at v
    change List Int at m
    change List Int at v'
    change List Int at m'
    repeat' (intro t ht; first | (cases t <;> first | (cases ht; done) | ((try simp only [bn_s] at ht); (try simp only [nd_s] at ht))) | (refine ht ?_ ?_ <;> clear ht) | (refine ht.1 ?_ ?_ <;> clear ht) | (refine ht ?_; clear ht))
    all_goals first
      | exact True.intro
      | (simp_all; done)
      | trace_state
  · cases e
def ir_oxm_Same : IR :=
(.seq
(.keep [0, 1]
(.reg (oD 2 (.boxv (.t 0)) ::
oD 3 (.boxv (.t 1)) ::
oD 4 (.mov cF) ::
[])))
(.seq
(.keep [2, 3]
(.reg (oD 5 (.load (some 6) (.t 2)) ::
oD 6 (.load (some 6) (.t 3)) ::
oD 7 (.call false (.f 79) [(.t 5), (.t 6)]) ::
oM 8 7 ::
oT 8 9 (.fieldAddr 2 (.t 2)) ::
oT 8 10 (.load none (.t 9)) ::
oT 8 11 (.fieldAddr 2 (.t 3)) ::
oT 8 12 (.load none (.t 11)) ::
oT 8 13 (.eqb false (.t 10) (.t 12)) ::
oD 14 (.pick (.t 8) (.t 13) cF) ::
oM 15 14 ::
oT 15 16 (.fieldAddr 4 (.t 2)) ::
oT 15 17 (.load none (.t 16)) ::
oT 15 18 (.fieldAddr 4 (.t 3)) ::
oT 15 19 (.load none (.t 18)) ::
oT 15 20 (.call false (.f 121) [(.t 17), (.t 19)]) ::
oD 21 (.pick (.t 15) (.t 20) cF) ::
oM 22 21 ::
oT 22 23 (.fieldAddr 5 (.t 2)) ::
oT 22 24 (.load none (.t 23)) ::
oT 22 25 (.fieldAddr 5 (.t 3)) ::
oT 22 26 (.load none (.t 25)) ::
oT 22 27 (.call false (.f 121) [(.t 24), (.t 26)]) ::
oD 28 (.pick (.t 22) (.t 27) cF) ::
oM 4 28 ::
[])))
.ret))
def rd_oxm_Same : List RD := [.tmp 4 true none]
theorem ok_oxm_Same : fnOk Tryd.prog Tryd.f106 ir_oxm_Same rd_oxm_Same = true := by kernel_rfl
def S_oxm_Same : List AV → List Obj → Option (Prop × AV)
  | [.agg [.int .i64 c, .int .i64 f, .bool h, .int .u64 x, .imm (.int .u8) v, .imm (.int .u8) m], .agg [.int .i64 c', .int .i64 f', .bool h', .int .u64 x', .imm (.int .u8) v', .imm (.int .u8) m']], [] => some ((True, .bool (sameO c f h x v m c' f' h' x' v' m')))
  | _, _ => none
theorem snd_oxm_Same : SoundS Tryd.prog 106 (RoF S_oxm_Same).sum := by
  refine ro_fn Tryd.func106 ok_oxm_Same (env_cons (s := RoF S_oxm_Alike) snd_oxm_Alike (env_cons (s := RoF S_bytes_Equal) snd_bytes_Equal (env_nil _))) fun args objs p v e => ?_
  unfold S_oxm_Same at e
  split at e
  · rename_i c f h x v m c' f' h' x' v' m'
    cases e
    refine ⟨rfl, fun hw ho hp => ?_⟩
    change List Int at v
    change List Int at m
    change List Int at v'
    change List Int at m'
    repeat' (intro t ht; first | (cases t <;> first | (cases ht; done) | ((try simp only [bn_s] at ht); (try simp only [nd_s] at ht))) | (refine ht ?_ ?_ <;> clear ht) | (refine ht.1 ?_ ?_ <;> clear ht) | (refine ht ?_; clear ht))
    all_goals first
      | exact True.intro
      | (refine ⟨?_, rfl⟩; unfold sameO; simp_all; done)
      | (refine ⟨?_, rfl⟩; unfold sameO; cases h <;> cases h' <;> simp_all; done)
      | (refine ⟨?_, rfl⟩; unfold sameO; rcases ‹(¬c = c' ∨ ¬f = f') ∨ ¬x = x'› with (h1 | h1) | h1 <;> rw [decide_eq_false h1] <;> simp)
      | trace_state
  · cases e
def ir_oxm_Copy : IR :=
(.seq
(.keep [0]
(.reg (oD 1 (.boxv (.t 0)) ::
oD 2 (.box [.int .i64 0, .int .i64 0, .kb false, .int .u64 0, .imm (.int .u8) [], .imm (.int .u8) []]) ::
[])))
(.seq
(.keep [1, 2]
(.reg (oD 5 (.fieldAddr 4 (.t 1)) ::
oL 6 5 ::
oD 7 (.len (.t 6)) ::
oD 8 (.fieldAddr 5 (.t 1)) ::
oL 9 8 ::
oD 10 (.len (.t 9)) ::
oD 11 (.bin .add (.t 7) (.t 10)) ::
oD 12 (.mkrow (.int .u8) 1 (0 : Int) (.t 11) (.t 11)) ::
oM 3 12 ::
[])))
(.seq
(.keep [1, 2, 3]
(.reg (oM 13 3 ::
oD 14 (.fieldAddr 4 (.t 1)) ::
oL 15 14 ::
oD 16 (.copy (.int .u8) (.t 13) (.t 15)) ::
oM 4 16 ::
[])))
(.seq
(.keep [1, 2, 3, 4]
(.regD ((oM 17 3, []) ::
(oM 18 4, [0]) ::
(oD 19 (.slice 1 (.t 17) (some (.t 18)) none none), []) ::
(oD 20 (.fieldAddr 5 (.t 1)), [0, 0, 0]) ::
(oL 21 20, [1, 0, 0]) ::
(oD 22 (.copy (.int .u8) (.t 19) (.t 21)), []) ::
[])))
(.seq
(.keep [1, 2, 3, 4]
(.regD ((oM 23 3, []) ::
(oM 24 4, [0]) ::
(oM 25 4, [0, 0]) ::
(oD 26 (.slice 1 (.t 23) none (some (.t 24)) (some (.t 25))), []) ::
(oM 27 3, [0, 0, 0, 0]) ::
(oM 28 4, [0, 0, 0, 0, 0]) ::
(oD 29 (.slice 1 (.t 27) (some (.t 28)) none none), [2, 0, 0, 0]) ::
(oD 30 (.fieldAddr 4 (.t 1)), [0, 0, 0]) ::
(oN (.store 1 (.t 30) (.t 26)), [1, 0, 0]) ::
(oD 31 (.fieldAddr 5 (.t 1)), []) ::
(oN (.store 1 (.t 31) (.t 29)), []) ::
[])))
(.seq
(.keep [1, 2]
(.reg (oD 32 (.load (some 6) (.t 1)) ::
oN (.store 6 (.t 2) (.t 32)) ::
[])))
.ret))))))
def rd_oxm_Copy : List RD := [.cell 2 (some 6) false []]
theorem ok_oxm_Copy : fnOk Tryd.prog Tryd.f58 ir_oxm_Copy rd_oxm_Copy = true := by kernel_rfl
def S_oxm_Copy : List AV → List Obj → Option (Prop × AV × List Obj)
  | [.agg [.int .i64 c, .int .i64 f, .bool h, .int .u64 x, .imm (.int .u8) v, .imm (.int .u8) m]], [] => some ((v.length ≤ 100000 ∧ m.length ≤ 100000, .agg [.int .i64 c, .int .i64 f, .bool h, .int .u64 x, .view 0 0 v.length, .view 0 v.length m.length], [.row false (.int .u8) (v ++ m)]))
  | _, _ => none
theorem snd_oxm_Copy : SoundS Tryd.prog 58 (RwF S_oxm_Copy).sum := by
  refine rw_fn Tryd.func58 ok_oxm_Copy (env_nil _) fun args objs p v o e => ?_
  unfold S_oxm_Copy at e
  split at e
  · rename_i c f h x v m
    cases e
    refine ⟨rfl, fun hw ho hp => ?_⟩
    change List Int at v
    change List Int at m
    have k1 : ((v.length : Int) + m.length).toNat = v.length + m.length := by omega
    have k2 : (List.replicate (v.length + m.length) (0 : Int)).length = v.length + m.length := List.length_replicate
    have k3 : v.take (v.length + m.length) = v := List.take_of_length_le (by omega)
    have k4 : (List.replicate (v.length + m.length) (0 : Int)).drop v.length = List.replicate m.length 0 := by rw [List.drop_replicate]; congr 1; omega
    have k5 : min v.length (v.length + m.length) = v.length := Nat.min_eq_left (by omega)
    have k6 : (v ++ List.replicate m.length (0 : Int)).length = v.length + m.length := by simp
    have k7 : (((v.length + m.length : Nat) : Int) - (v.length : Int)).toNat = m.length := by omega
    have k8 : (v ++ List.replicate m.length (0 : Int)).take v.length = v := List.take_left
    have k9 : m.take m.length = m := List.take_length
    have k10 : min m.length m.length = m.length := Nat.min_self _
    have k11 : (v ++ List.replicate m.length (0 : Int)).drop (v.length + m.length) = [] := List.drop_of_length_le (by simp)
    have k12 : (v ++ m).length = v.length + m.length := List.length_append
    have k13 : ((v.length : Int) - 0).toNat = v.length := by omega
    repeat' (intro t ht; first | (cases t <;> first | (cases ht; done) | ((try simp only [bn_s] at ht); (try simp only [nd_s] at ht))) | (refine ht ?_ ?_ <;> clear ht) | (refine ht.1 ?_ ?_ <;> clear ht) | (refine ht ?_; clear ht))
    all_goals first
      | exact True.intro
      | (simp only [cast_rfl, k1, k2, k3, k4, k5, k6, k7, k8, k9, k10, k11, k12, k13, List.append_nil, Int.toNat_natCast]; first | omega | exact ⟨rfl, by first | rfl | exact True.intro⟩ | (refine ⟨?_, ?_, ?_, ?_⟩ <;> first | exact True.intro | omega))
      | omega
      | ((try simp only [nd_s, bn_s, mm_s] at *); omega)
      | exact ⟨rfl, by first | rfl | exact True.intro⟩
      | trace_state
  · cases e
end Go.Eng
