/- Contracts of functions of the given program, told by plain Lean functions. No condition. -/
import Derived.Test.YtmbcgankddgpjaaDoorProg
import Derived.Test.YtmbcgankddgpjaaDoorEArg
import Derived.KernelRfl
import Derived.Test.YtmbcgankddgpjaaDoorOI
import Derived.Test.YtmbcgankddgpjaaDoorN1
namespace Go.Eng
open Go.Proofs
set_option linter.unusedVariables false
set_option linter.unusedSimpArgs false
set_option maxRecDepth 100000
set_option maxHeartbeats 1000000
def rowT (t : Int) : List Int := if t = 0 then [4, 2, -6] else if t = 22 ∨ t = 21 ∨ t = 65535 then [4] else if t = 15 ∨ t = 23 then [1, -3] else if t = 17 ∨ t = 19 ∨ t = 26 ∨ t = 20 then [2, -2] else if t = 11 ∨ t = 12 ∨ t = 16 ∨ t = 18 ∨ t = 24 ∨ t = 27 then [-4] else []
def rowK (t : Int) : Bool := decide (t = 0 ∨ (t = 22 ∨ t = 21 ∨ t = 65535) ∨ (t = 15 ∨ t = 23) ∨ (t = 17 ∨ t = 19 ∨ t = 26 ∨ t = 20) ∨ (t = 11 ∨ t = 12 ∨ t = 16 ∨ t = 18 ∨ t = 24 ∨ t = 27))
theorem rowT_no {t : Int} (h : ¬ (t = 0 ∨ (t = 22 ∨ t = 21 ∨ t = 65535) ∨ (t = 15 ∨ t = 23) ∨ (t = 17 ∨ t = 19 ∨ t = 26 ∨ t = 20) ∨ (t = 11 ∨ t = 12 ∨ t = 16 ∨ t = 18 ∨ t = 24 ∨ t = 27))) : rowT t = [] ∧ rowK t = false := by
  refine ⟨?_, decide_eq_false h⟩
  unfold rowT
  rw [if_neg (by omega), if_neg (by omega), if_neg (by omega), if_neg (by omega), if_neg (by omega)]
theorem rowK_t {t : Int} (h : rowK t = true) : t = 0 ∨ (t = 22 ∨ t = 21 ∨ t = 65535) ∨ (t = 15 ∨ t = 23) ∨ (t = 17 ∨ t = 19 ∨ t = 26 ∨ t = 20) ∨ (t = 11 ∨ t = 12 ∨ t = 16 ∨ t = 18 ∨ t = 24 ∨ t = 27) := of_decide_eq_true h
theorem rowT_of (t : Int) : rowT t = [4, 2, -6] ∨ rowT t = [4] ∨ rowT t = [1, -3] ∨ rowT t = [2, -2] ∨ rowT t = [-4] ∨ rowT t = [] := by
  unfold rowT
  repeat' split
  all_goals simp
theorem cnt_le (t : Int) : 0 ≤ countW (rowT t) ∧ countW (rowT t) ≤ 2 := by
  rcases rowT_of t with h | h | h | h | h | h <;> rw [h] <;> decide
theorem siz_le (t : Int) : 0 ≤ sizeW (rowT t) ∧ sizeW (rowT t) ≤ 12 := by
  rcases rowT_of t with h | h | h | h | h | h <;> rw [h] <;> decide
def askF (t n : Int) : Int := if t = 0 then (if n = 0 then 517 else 0) else if t = 22 then (if 4294967040 < n then 522 else 0) else if t = 17 then (if n ≠ 33024 ∧ n ≠ 34984 then 518 else 0) else if t = 19 then (if n ≠ 34887 ∧ n ≠ 34888 then 518 else 0) else if t = 26 then (if n ≠ 35047 then 518 else 0) else 0
def ir_action_rows : IR :=
(.seq
(.keep [0]
(.reg (oD 2 (.mov (.c (.imm (.int .i64) []))) ::
oD 3 (.mov cF) ::
[])))
(.seq
(.seq
(.reg (oM 4 0 ::
[]))
(.block 0
(.seq
(.block 7
(.block 6
(.seq
(.block 5
(.block 4
(.seq
(.block 3
(.seq
(.block 2
(.seq
(.block 1
(.seq
(.seq
(.seq
(.reg (oD 6 (.bin .eql (.t 4) (cI 0)) ::
oM 5 6 ::
[]))
(.cond (.t 5)
(.exit 1)
.skip))
(.seq
(.seq
(.seq
(.reg (oD 8 (.bin .eql (.t 4) (cI 22)) ::
oM 7 8 ::
[]))
(.cond (.t 7)
.skip
(.seq
(.keep [4]
(.reg (oD 9 (.bin .eql (.t 4) (cI 21)) ::
oM 7 9 ::
[])))
(.cond (.t 7)
.skip
(.reg (oD 10 (.bin .eql (.t 4) (cI 65535)) ::
oM 7 10 ::
[]))))))
(.cond (.t 7)
(.exit 2)
.skip))
(.seq
(.seq
(.seq
(.keep [4]
(.reg (oD 12 (.bin .eql (.t 4) (cI 15)) ::
oM 11 12 ::
[])))
(.cond (.t 11)
.skip
(.reg (oD 13 (.bin .eql (.t 4) (cI 23)) ::
oM 11 13 ::
[]))))
(.cond (.t 11)
(.exit 3)
.skip))
(.seq
(.seq
(.seq
(.reg (oD 15 (.bin .eql (.t 4) (cI 17)) ::
oM 14 15 ::
[]))
(.cond (.t 14)
.skip
(.seq
(.keep [4]
(.reg (oD 16 (.bin .eql (.t 4) (cI 19)) ::
oM 14 16 ::
[])))
(.cond (.t 14)
.skip
(.reg (oD 17 (.bin .eql (.t 4) (cI 26)) ::
oM 14 17 ::
[]))))))
(.cond (.t 14)
(.exit 4)
.skip))
(.seq
(.seq
(.keep [4]
(.reg (oD 19 (.bin .eql (.t 4) (cI 20)) ::
oM 18 19 ::
[])))
(.cond (.t 18)
(.exit 5)
.skip))
(.seq
(.seq
(.seq
(.reg (oD 21 (.bin .eql (.t 4) (cI 11)) ::
oM 20 21 ::
[]))
(.cond (.t 20)
.skip
(.seq
(.reg (oD 22 (.bin .eql (.t 4) (cI 12)) ::
oM 20 22 ::
[]))
(.cond (.t 20)
.skip
(.keep [4]
(.reg (oD 23 (.bin .eql (.t 4) (cI 16)) ::
oM 20 23 ::
[])))))))
(.cond (.t 20)
(.exit 6)
.skip))
(.seq
(.seq
(.keep [4]
(.reg (oD 25 (.bin .eql (.t 4) (cI 18)) ::
oM 24 25 ::
[])))
(.cond (.t 24)
.skip
(.seq
(.reg (oD 26 (.bin .eql (.t 4) (cI 24)) ::
oM 24 26 ::
[]))
(.cond (.t 24)
.skip
(.reg (oD 27 (.bin .eql (.t 4) (cI 27)) ::
oM 24 27 ::
[]))))))
(.cond (.t 24)
(.exit 7)
.skip))))))))
(.exit 0)))
(.seq
(.seq
(.keep []
(.reg (oD 28 (.sliceAll (.int .i64) 3 [(0, 1, (cI 4)), (1, 1, (cI 2)), (2, 1, (cI (-6)))]) ::
oM 2 28 ::
oD 3 (.mov cT) ::
[])))
.ret)
(.exit 0))))
(.seq
(.seq
(.keep []
(.reg (oD 29 (.sliceAll (.int .i64) 1 [(0, 1, (cI 4))]) ::
oM 2 29 ::
oD 3 (.mov cT) ::
[])))
.ret)
(.exit 0))))
(.seq
(.seq
(.keep []
(.reg (oD 30 (.sliceAll (.int .i64) 2 [(0, 1, (cI 1)), (1, 1, (cI (-3)))]) ::
oM 2 30 ::
oD 3 (.mov cT) ::
[])))
.ret)
(.exit 0)))))
(.seq
(.seq
(.keep []
(.reg (oD 31 (.sliceAll (.int .i64) 2 [(0, 1, (cI 2)), (1, 1, (cI (-2)))]) ::
oM 2 31 ::
oD 3 (.mov cT) ::
[])))
.ret)
(.exit 0)))))
(.seq
(.seq
(.keep []
(.reg (oD 32 (.sliceAll (.int .i64) 1 [(0, 1, (cI (-4)))]) ::
oM 2 32 ::
oD 3 (.mov cT) ::
[])))
.ret)
(.exit 0)))))
(.seq
(.keep []
(.reg (oD 2 (.mov (.c (.imm (.int .i64) []))) ::
oD 3 (.mov cF) ::
[])))
.ret)))
def rd_action_rows : List RD := [.tmp 2 true (some (.int .i64)), .tmp 3 true none]
theorem ok_action_rows : fnOk Tryd.prog Tryd.f83 ir_action_rows rd_action_rows = true := by kernel_rfl
def S_action_rows : List AV → List Obj → Option (Prop × AV)
  | [.int .i64 q], [] => some ((True, .tup [.imm (.int .i64) (rowT q), .bool (rowK q)]))
  | _, _ => none
theorem snd_action_rows : SoundS Tryd.prog 83 (RoF S_action_rows).sum := by
  refine ro_fn Tryd.func83 ok_action_rows (env_nil _) fun args objs p v e => ?_
  unfold S_action_rows at e
  split at e
  · rename_i q
    cases e
    refine ⟨rfl, fun hw ho hp => ?_⟩
    clear hw ho
    repeat' (intro t ht; first | (cases t <;> first | (cases ht; done) | ((try simp only [bn_s] at ht); (try simp only [nd_s] at ht); (try (exfalso; first | contradiction | omega)))) | (refine ht ?_ ?_ <;> clear ht) | (refine ht.1 ?_ ?_ <;> clear ht) | (refine ht ?_; clear ht))
    all_goals first
      | exact True.intro
      | (have h := rowT_no (t := q) (by omega)
         rw [h.1, h.2]; exact ⟨rfl, rfl⟩)
      | (subst_vars; exact ⟨rfl, rfl⟩)
      | (have h : q = 0 ∨ (q = 22 ∨ q = 21 ∨ q = 65535) ∨ (q = 15 ∨ q = 23) ∨ (q = 17 ∨ q = 19 ∨ q = 26 ∨ q = 20) ∨ (q = 11 ∨ q = 12 ∨ q = 16 ∨ q = 18 ∨ q = 24 ∨ q = 27) := by omega
         rcases h with rfl | (rfl | rfl | rfl) | (rfl | rfl) | (rfl | rfl | rfl | rfl) | (rfl | rfl | rfl | rfl | rfl | rfl) <;> first | (exfalso; omega) | exact ⟨rfl, rfl⟩)
      | trace_state
  · cases e
def ir_action_asked : IR :=
(.seq
(.keep [0, 1]
(.reg (oD 4 (.mov (cI 0)) ::
[])))
(.seq
(.block 0
(.seq
(.keep [0, 1]
(.reg (oM 6 0 ::
oD 7 (.bin .eql (.t 6) (cI 0)) ::
oM 8 7 ::
oT 8 9 (.mov (.t 1)) ::
oT 8 10 (.bin .eql (.t 9) (.c (.int .u64 0))) ::
oD 11 (.pick (.t 8) (.t 10) cF) ::
oM 5 11 ::
[])))
(.cond (.t 5)
(.seq
(.keep []
(.reg (oD 4 (.mov (cI 517)) ::
[])))
.ret)
(.seq
(.keep [0, 1]
(.reg (oM 13 0 ::
oD 14 (.bin .eql (.t 13) (cI 22)) ::
oM 15 14 ::
oT 15 16 (.mov (.t 1)) ::
oT 15 17 (.bin .gtr (.t 16) (.c (.int .u64 4294967040))) ::
oD 18 (.pick (.t 15) (.t 17) cF) ::
oM 12 18 ::
[])))
(.cond (.t 12)
(.seq
(.keep []
(.reg (oD 4 (.mov (cI 522)) ::
[])))
.ret)
(.seq
(.keep [0, 1]
(.reg (oM 20 0 ::
oD 21 (.bin .eql (.t 20) (cI 17)) ::
oM 22 21 ::
oT 22 23 (.mov (.t 1)) ::
oT 22 24 (.bin .neq (.t 23) (.c (.int .u64 33024))) ::
oD 25 (.pick (.t 22) (.t 24) cF) ::
oM 26 25 ::
oT 26 27 (.mov (.t 1)) ::
oT 26 28 (.bin .neq (.t 27) (.c (.int .u64 34984))) ::
oD 29 (.pick (.t 26) (.t 28) cF) ::
oM 19 29 ::
[])))
(.cond (.t 19)
(.seq
(.keep []
(.reg (oD 4 (.mov (cI 518)) ::
[])))
.ret)
(.seq
(.keep [0, 1]
(.reg (oM 31 0 ::
oD 32 (.bin .eql (.t 31) (cI 19)) ::
oM 33 32 ::
oT 33 34 (.mov (.t 1)) ::
oT 33 35 (.bin .neq (.t 34) (.c (.int .u64 34887))) ::
oD 36 (.pick (.t 33) (.t 35) cF) ::
oM 37 36 ::
oT 37 38 (.mov (.t 1)) ::
oT 37 39 (.bin .neq (.t 38) (.c (.int .u64 34888))) ::
oD 40 (.pick (.t 37) (.t 39) cF) ::
oM 30 40 ::
[])))
(.cond (.t 30)
(.seq
(.keep []
(.reg (oD 4 (.mov (cI 518)) ::
[])))
.ret)
(.seq
(.keep [0, 1]
(.reg (oM 42 0 ::
oD 43 (.bin .eql (.t 42) (cI 26)) ::
oM 44 43 ::
oT 44 45 (.mov (.t 1)) ::
oT 44 46 (.bin .neq (.t 45) (.c (.int .u64 35047))) ::
oD 47 (.pick (.t 44) (.t 46) cF) ::
oM 41 47 ::
[])))
(.cond (.t 41)
(.seq
(.keep []
(.reg (oD 4 (.mov (cI 518)) ::
[])))
.ret)
.skip)))))))))))
(.seq
(.keep []
(.reg (oD 4 (.mov (cI 0)) ::
[])))
.ret)))
def rd_action_asked : List RD := [.tmp 4 true none]
theorem ok_action_asked : fnOk Tryd.prog Tryd.f85 ir_action_asked rd_action_asked = true := by kernel_rfl
def S_action_asked : List AV → List Obj → Option (Prop × AV)
  | [.int .i64 q, .int .u64 n], [] => some ((True, .int .i64 (askF q n)))
  | _, _ => none
theorem snd_action_asked : SoundS Tryd.prog 85 (RoF S_action_asked).sum := by
  refine ro_fn Tryd.func85 ok_action_asked (env_nil _) fun args objs p v e => ?_
  unfold S_action_asked at e
  split at e
  · rename_i q n
    cases e
    refine ⟨rfl, fun hw ho hp => ?_⟩
    clear hw ho
    repeat' (intro t ht; first | (cases t <;> first | (cases ht; done) | ((try simp only [bn_s] at ht); (try simp only [nd_s] at ht); (try (exfalso; first | contradiction | omega)))) | (refine ht ?_ ?_ <;> clear ht) | (refine ht.1 ?_ ?_ <;> clear ht) | (refine ht ?_; clear ht))
    all_goals first
      | exact True.intro
      | (refine ⟨congrArg (AV.int .i64) ?_, rfl⟩; unfold askF; repeat' split
         all_goals first | rfl | omega)
      | trace_state
  · cases e
def ir_action_settable : IR :=
(.seq
(.keep [0]
(.reg (oD 1 (.boxv (.t 0)) ::
oD 2 (.mov cF) ::
[])))
(.seq
(.keep [1]
(.reg (oD 3 (.fieldAddr 0 (.t 1)) ::
oL 4 3 ::
oD 5 (.bin .eql (.t 4) (cI 32768)) ::
oM 6 5 ::
oT 6 7 (.fieldAddr 2 (.t 1)) ::
oT 6 8 (.load none (.t 7)) ::
oT 6 9 (.un .not (.t 8)) ::
oD 10 (.pick (.t 6) (.t 9) cF) ::
oM 11 10 ::
oT 11 12 (.fieldAddr 1 (.t 1)) ::
oT 11 13 (.load none (.t 12)) ::
oT 11 14 (.call false (.f 105) [(.t 13)]) ::
oD 15 (.pick (.t 11) (.t 14) cF) ::
oM 16 15 ::
oT 16 17 (.load (some 6) (.t 1)) ::
oT 16 18 (.call false (.f 52) [(.t 17)]) ::
oD 19 (.pick (.t 16) (.t 18) cF) ::
oM 2 19 ::
[])))
.ret))
def rd_action_settable : List RD := [.tmp 2 true none]
theorem ok_action_settable : fnOk Tryd.prog Tryd.f82 ir_action_settable rd_action_settable = true := by kernel_rfl
def S_action_settable : List AV → List Obj → Option (Prop × AV)
  | [.agg [.int .i64 c, .int .i64 f, .bool h, .int .u64 x, .imm (.int .u8) v, .imm (.int .u8) m]], [] => some ((v.length ≤ 1000000 ∧ m.length ≤ 1000000, .bool (decide (c = 32768) && !h && settF f && rightO c f h x v m)))
  | _, _ => none
theorem snd_action_settable : SoundS Tryd.prog 82 (RoF S_action_settable).sum := by
  refine ro_fn Tryd.func82 ok_action_settable (env_cons (s := RoF S_field_Settable) snd_field_Settable (env_cons (s := RoF S_oxm_Right) snd_oxm_Right (env_nil _))) fun args objs p v e => ?_
  unfold S_action_settable at e
  split at e
  · rename_i c f h x v m
    cases e
    refine ⟨rfl, fun hw ho hp => ?_⟩
    change List Int at v
    change List Int at m
    clear hw ho
    cases h
    all_goals repeat' (intro t ht; first | (cases t <;> first | (cases ht; done) | ((try simp only [bn_s] at ht); (try simp only [nd_s] at ht); (try (exfalso; first | contradiction | omega)))) | (refine ht ?_ ?_ <;> clear ht) | (refine ht.1 ?_ ?_ <;> clear ht) | (refine ht ?_; clear ht))
    all_goals first
      | exact True.intro
      | exact hp
      | (refine ⟨congrArg AV.bool ?_, rfl⟩; simp_all; done)
      | trace_state
  · cases e
def ir_action_bare : IR :=
(.seq
(.keep [0]
(.reg (oD 1 (.boxv (.t 0)) ::
oD 2 (.mov cF) ::
[])))
(.seq
(.reg (oD 3 (.load (some 6) (.t 1)) ::
oD 4 (.build [.int .i64 0, .int .i64 0, .kb false, .int .u64 0, .imm (.int .u8) [], .imm (.int .u8) []] []) ::
oD 5 (.call false (.f 106) [(.t 3), (.t 4)]) ::
oM 2 5 ::
[]))
.ret))
def rd_action_bare : List RD := [.tmp 2 true none]
theorem ok_action_bare : fnOk Tryd.prog Tryd.f84 ir_action_bare rd_action_bare = true := by kernel_rfl
def S_action_bare : List AV → List Obj → Option (Prop × AV)
  | [.agg [.int .i64 c, .int .i64 f, .bool h, .int .u64 x, .imm (.int .u8) v, .imm (.int .u8) m]], [] => some ((True, .bool (sameO c f h x v m 0 0 false 0 [] [])))
  | _, _ => none
theorem snd_action_bare : SoundS Tryd.prog 84 (RoF S_action_bare).sum := by
  refine ro_fn Tryd.func84 ok_action_bare (env_cons (s := RoF S_oxm_Same) snd_oxm_Same (env_nil _)) fun args objs p v e => ?_
  unfold S_action_bare at e
  split at e
  · rename_i c f h x v m
    cases e
    refine ⟨rfl, fun hw ho hp => ?_⟩
    change List Int at v
    change List Int at m
    clear hw ho
    repeat' (intro t ht; first | (cases t <;> first | (cases ht; done) | ((try simp only [bn_s] at ht); (try simp only [nd_s] at ht); (try (exfalso; first | contradiction | omega)))) | (refine ht ?_ ?_ <;> clear ht) | (refine ht.1 ?_ ?_ <;> clear ht) | (refine ht ?_; clear ht))
    all_goals first
      | exact True.intro
      | exact ⟨rfl, rfl⟩
      | trace_state
  · cases e
def numsA (t a b : Int) : List Int := [a, b].take (countW (rowT t)).toNat
def rightA (R : Bool) (t a b c f : Int) (h : Bool) (x : Int) (v m d : List Int) : Bool :=
  if t = 25 then decide (a = 0) && decide (b = 0) && decide (d.length = 0) && (decide (c = 32768) && !h && settF f && R)
  else rowK t && sameO c f h x v m 0 0 false 0 [] [] && decide (askF t a = 0) && putK (rowT t) (numsA t a b) && (decide (2 ≤ countW (rowT t)) || decide (b = 0)) && (decide (1 ≤ countW (rowT t)) || decide (a = 0)) && (if t = 65535 then decide ((d.length : Int).tmod 8 = 0) && decide ((d.length : Int) ≤ 65520) else decide (d.length = 0))
def ir_action_Right : IR :=
(.seq
(.keep [0]
(.reg (oD 1 (.boxv (.t 0)) ::
oD 2 (.mov cF) ::
[])))
(.seq
(.seq
(.reg (oD 8 (.fieldAddr 0 (.t 1)) ::
oL 9 8 ::
oD 10 (.bin .eql (.t 9) (cI 25)) ::
[]))
(.cond (.t 10)
(.seq
(.keep [1]
(.reg (oD 11 (.fieldAddr 1 (.t 1)) ::
oL 12 11 ::
oD 13 (.bin .eql (.t 12) (.c (.int .u64 0))) ::
oM 14 13 ::
oT 14 15 (.fieldAddr 2 (.t 1)) ::
oT 14 16 (.load none (.t 15)) ::
oT 14 17 (.bin .eql (.t 16) (.c (.int .u64 0))) ::
oD 18 (.pick (.t 14) (.t 17) cF) ::
oM 19 18 ::
oT 19 20 (.fieldAddr 9 (.t 1)) ::
oT 19 21 (.load none (.t 20)) ::
oT 19 22 (.len (.t 21)) ::
oT 19 23 (.bin .eql (.t 22) (cI 0)) ::
oD 24 (.pick (.t 19) (.t 23) cF) ::
oM 25 24 ::
oT 25 26 (.fieldAddr 3 (.t 1)) ::
oT 25 27 (.load (some 6) (.t 26)) ::
oT 25 28 (.call false (.f 82) [(.t 27)]) ::
oD 29 (.pick (.t 25) (.t 28) cF) ::
oM 2 29 ::
[])))
.ret)
.skip))
(.seq
(.keep [1]
(.reg (oD 31 (.fieldAddr 0 (.t 1)) ::
oL 32 31 ::
oD 33 (.call false (.f 83) [(.t 32)]) ::
oM 30 33 ::
oD 34 (.extract (.t 30) 0) ::
oD 35 (.extract (.t 30) 1) ::
oM 3 34 ::
oM 4 35 ::
[])))
(.seq
(.seq
(.keep [1, 3, 4]
(.reg (oM 36 4 ::
oD 37 (.un .not (.t 36)) ::
oM 38 37 ::
oF 38 39 (.fieldAddr 3 (.t 1)) ::
oF 38 40 (.load (some 6) (.t 39)) ::
oF 38 41 (.call false (.f 84) [(.t 40)]) ::
oF 38 42 (.un .not (.t 41)) ::
oD 43 (.pick (.t 38) cT (.t 42)) ::
oM 44 43 ::
oF 44 45 (.fieldAddr 0 (.t 1)) ::
oF 44 46 (.load none (.t 45)) ::
oF 44 47 (.fieldAddr 1 (.t 1)) ::
oF 44 48 (.load none (.t 47)) ::
oF 44 49 (.call false (.f 85) [(.t 46), (.t 48)]) ::
oF 44 50 (.bin .neq (.t 49) (cI 0)) ::
oD 51 (.pick (.t 44) cT (.t 50)) ::
[])))
(.cond (.t 51)
(.seq
(.keep []
(.reg (oD 2 (.mov cF) ::
[])))
.ret)
.skip))
(.seq
(.keep [1, 3]
(.reg (oM 52 3 ::
oD 53 (.call false (.f 86) [(.t 52)]) ::
oM 5 53 ::
[])))
(.seq
(.keep [1, 3, 5]
(.reg (oM 55 3 ::
oD 56 (.fieldAddr 1 (.t 1)) ::
oL 57 56 ::
oD 58 (.fieldAddr 2 (.t 1)) ::
oL 59 58 ::
oD 60 (.sliceAll (.int .u64) 2 [(0, 1, (.t 57)), (1, 1, (.t 59))]) ::
oM 61 5 ::
oD 62 (.slice 1 (.t 60) none (some (.t 61)) none) ::
oD 63 (.call false (.f 87) [(.t 55), (.t 62)]) ::
oM 54 63 ::
oD 64 (.extract (.t 54) 0) ::
oD 65 (.extract (.t 54) 1) ::
oM 6 64 ::
oM 7 65 ::
[])))
(.seq
(.seq
(.keep [1, 5, 7]
(.reg (oM 66 7 ::
oD 67 (.un .not (.t 66)) ::
oM 68 67 ::
oF 68 69 (.mov (.t 5)) ::
oF 68 70 (.bin .lss (.t 69) (cI 2)) ::
oF 68 71 (.mov (.t 70)) ::
oT 71 72 (.fieldAddr 2 (.t 1)) ::
oT 71 73 (.load none (.t 72)) ::
oT 71 74 (.bin .neq (.t 73) (.c (.int .u64 0))) ::
oF 68 75 (.pick (.t 71) (.t 74) cF) ::
oD 76 (.pick (.t 68) cT (.t 75)) ::
oM 77 76 ::
oF 77 78 (.mov (.t 5)) ::
oF 77 79 (.bin .lss (.t 78) (cI 1)) ::
oF 77 80 (.mov (.t 79)) ::
oT 80 81 (.fieldAddr 1 (.t 1)) ::
oT 80 82 (.load none (.t 81)) ::
oT 80 83 (.bin .neq (.t 82) (.c (.int .u64 0))) ::
oF 77 84 (.pick (.t 80) (.t 83) cF) ::
oD 85 (.pick (.t 77) cT (.t 84)) ::
[])))
(.cond (.t 85)
(.seq
(.keep []
(.reg (oD 2 (.mov cF) ::
[])))
.ret)
.skip))
(.seq
(.seq
(.keep [1]
(.reg (oD 86 (.fieldAddr 0 (.t 1)) ::
oL 87 86 ::
oD 88 (.bin .neq (.t 87) (cI 65535)) ::
[])))
(.cond (.t 88)
(.seq
(.keep [1]
(.reg (oD 89 (.fieldAddr 9 (.t 1)) ::
oL 90 89 ::
oD 91 (.len (.t 90)) ::
oD 92 (.bin .eql (.t 91) (cI 0)) ::
oM 2 92 ::
[])))
.ret)
.skip))
(.seq
(.keep [1]
(.reg (oD 93 (.fieldAddr 9 (.t 1)) ::
oL 94 93 ::
oD 95 (.len (.t 94)) ::
oD 96 (.bin .rem (.t 95) (cI 8)) ::
oD 97 (.bin .eql (.t 96) (cI 0)) ::
oM 98 97 ::
oT 98 99 (.fieldAddr 9 (.t 1)) ::
oT 98 100 (.load none (.t 99)) ::
oT 98 101 (.len (.t 100)) ::
oT 98 102 (.bin .leq (.t 101) (cI 65520)) ::
oD 103 (.pick (.t 98) (.t 102) cF) ::
oM 2 103 ::
[])))
.ret)))))))))
def rd_action_Right : List RD := [.tmp 2 true none]
theorem ok_action_Right : fnOk Tryd.prog Tryd.f55 ir_action_Right rd_action_Right = true := by kernel_rfl
def S_action_Right : List AV → List Obj → Option (Prop × AV)
  | [.agg [.int .i64 q, .int .u64 a, .int .u64 b, .int .i64 c, .int .i64 f, .bool h, .int .u64 x, .imm (.int .u8) v, .imm (.int .u8) m, .imm (.int .u8) d]], [] => some ((v.length ≤ 1000000 ∧ m.length ≤ 1000000, .bool (rightA (rightO c f h x v m) q a b c f h x v m d)))
  | _, _ => none
theorem snd_action_Right : SoundS Tryd.prog 55 (RoF S_action_Right).sum := by
  refine ro_fn Tryd.func55 ok_action_Right (env_cons (s := RoF S_action_settable) snd_action_settable (env_cons (s := RoF S_action_rows) snd_action_rows (env_cons (s := RoF S_action_bare) snd_action_bare (env_cons (s := RoF S_action_asked) snd_action_asked (env_cons (s := RoF S_row_Count) snd_row_Count (env_cons (s := RoF S_row_Put) snd_row_Put (env_nil _))))))) fun args objs p v e => ?_
  unfold S_action_Right at e
  split at e
  · rename_i q a b c f h x v m d
    cases e
    refine ⟨rfl, fun hw ho hp => ?_⟩
    change List Int at v
    change List Int at m
    change List Int at d
    have hdl : d.length ≤ maxLen := (hw _ (List.mem_cons_self ..) (.imm (.int .u8) d) (by simp)).2
    unfold maxLen at hdl
    clear hw ho
    have hcn := cnt_le q
    by_cases h25 : q = 25
    · subst h25
      repeat' (intro t ht; first | (cases t <;> first | (cases ht; done) | ((try simp only [bn_s] at ht); (try simp only [nd_s] at ht); (try (exfalso; first | contradiction | omega)))) | (refine ht ?_ ?_ <;> clear ht) | (refine ht.1 ?_ ?_ <;> clear ht) | (refine ht ?_; clear ht))
      all_goals first
        | exact True.intro
        | exact hp
        | ((try simp only [nd_s, bn_s, mm_s] at *); omega)
        | (refine ⟨congrArg AV.bool ?_, rfl⟩; unfold rightA; rw [if_pos rfl]; simp_all; done)
        | trace_state
    · repeat' (intro t ht; first | (cases t <;> first | (cases ht; done) | ((try simp only [bn_s] at ht); (try simp only [nd_s] at ht); (try (exfalso; first | contradiction | omega)))) | (refine ht ?_ ?_ <;> clear ht) | (refine ht.1 ?_ ?_ <;> clear ht) | (refine ht ?_; clear ht))
      all_goals first
        | exact True.intro
        | exact hp
        | ((try simp only [nd_s, bn_s, mm_s] at *); omega)
        | (refine ⟨congrArg AV.bool ?_, rfl⟩; unfold rightA numsA; rw [if_neg h25]; simp_all; done)
        | (refine ⟨congrArg AV.bool ?_, rfl⟩; unfold rightA numsA; rw [if_neg h25]; simp_all; omega)
        | trace_state
  · cases e
def sizeA (R : Bool) (S : Int) (t a b c f : Int) (h : Bool) (x : Int) (v m d : List Int) : Int := if rightA R t a b c f h x v m d = true then (if t = 25 then (4 + S + 8 - 1).tdiv 8 * 8 else 4 + sizeW (rowT t) + d.length) else 0
theorem right_len2 {R : Bool} {t a b c f : Int} {h : Bool} {x : Int} {v m d : List Int} (hr : rightA R t a b c f h x v m d = true) : d.length ≤ 65520 := by
  unfold rightA at hr
  split at hr
  · simp only [Bool.and_eq_true, decide_eq_true_eq] at hr; omega
  · simp only [Bool.and_eq_true] at hr
    have := hr.2
    split at this
    · simp only [Bool.and_eq_true, decide_eq_true_eq] at this; omega
    · simp only [decide_eq_true_eq] at this; omega
theorem sizeO_le {c f : Int} {h : Bool} {x : Int} {v m : List Int} (hv : v.length ≤ 1000000) (hm : m.length ≤ 1000000) : 0 ≤ sizeO c f h x v m ∧ sizeO c f h x v m ≤ 3000000 := by
  unfold sizeO restO; repeat' split
  all_goals omega
def evZ (s : Int) (n : Nat) : List Int := List.replicate ((s - (n : Int).tmod s).tmod s).toNat 0
theorem tmod_bd {a s : Int} (ha : 0 ≤ a) (hs : 1 ≤ s) : 0 ≤ a.tmod s ∧ a.tmod s < s := by
  rw [Int.tmod_eq_emod_of_nonneg ha]; exact ⟨Int.emod_nonneg _ (by omega), Int.emod_lt_of_pos _ (by omega)⟩
end Go.Eng
