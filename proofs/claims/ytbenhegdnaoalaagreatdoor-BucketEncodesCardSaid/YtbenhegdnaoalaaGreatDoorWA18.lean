/- Parts of the proof: A1, A2, M3, A3, A4, A6. No condition. -/
import Derived.Test.YtbenhegdnaoalaaGreatDoorProg
import Derived.Test.YtbenhegdnaoalaaGreatDoorWA10
import Derived.KernelRfl
import Derived.Test.YtbenhegdnaoalaaGreatDoorWA16
import Derived.Test.YtbenhegdnaoalaaGreatDoorWA17
namespace Go.Eng
open Go.Proofs
set_option linter.unusedVariables false
set_option linter.unusedSimpArgs false
set_option maxRecDepth 100000
set_option maxHeartbeats 1000000
def rowT (t : Int) : List Int := if t = 0 then [4, 2, -6] else if t = 22 ∨ t = 21 ∨ t = 65535 then [4] else if t = 15 ∨ t = 23 then [1, -3] else if t = 17 ∨ t = 19 ∨ t = 26 ∨ t = 20 then [2, -2] else if t = 11 ∨ t = 12 ∨ t = 16 ∨ t = 18 ∨ t = 24 ∨ t = 27 then [-4] else []
def rowK (t : Int) : Bool := decide (t = 0 ∨ (t = 22 ∨ t = 21 ∨ t = 65535) ∨ (t = 15 ∨ t = 23) ∨ (t = 17 ∨ t = 19 ∨ t = 26 ∨ t = 20) ∨ (t = 11 ∨ t = 12 ∨ t = 16 ∨ t = 18 ∨ t = 24 ∨ t = 27))
theorem rowT_no {t : Int} (h : ¬ (t = 0 ∨ (t = 22 ∨ t = 21 ∨ t = 65535) ∨ (t = 15 ∨ t = 23) ∨ (t = 17 ∨ t = 19 ∨ t = 26 ∨ t = 20) ∨ (t = 11 ∨ t = 12 ∨ t = 16 ∨ t = 18 ∨ t = 24 ∨ t = 27))) : rowT t = [] ∧ rowK t = false := by
  refine ⟨?_, decide_eq_false h⟩
  unfold rowT
  rw [if_neg (by omega), if_neg (by omega), if_neg (by omega), if_neg (by omega), if_neg (by omega)]
theorem rowK_t {t : Int} (h : rowK t = true) : t = 0 ∨ (t = 22 ∨ t = 21 ∨ t = 65535) ∨ (t = 15 ∨ t = 23) ∨ (t = 17 ∨ t = 19 ∨ t = 26 ∨ t = 20) ∨ (t = 11 ∨ t = 12 ∨ t = 16 ∨ t = 18 ∨ t = 24 ∨ t = 27) := of_decide_eq_true h
theorem rowT_of (t : Int) : rowT t = [4, 2, -6] ∨ rowT t = [4] ∨ rowT t = [1, -3] ∨ rowT t = [2, -2] ∨ rowT t = [-4] ∨ rowT t = [] := by
  unfold rowT
  repeat' split
  all_goals simp
theorem cnt_le (t : Int) : 0 ≤ countW (rowT t) ∧ countW (rowT t) ≤ 2 := by
  rcases rowT_of t with h | h | h | h | h | h <;> rw [h] <;> decide
theorem siz_le (t : Int) : 0 ≤ sizeW (rowT t) ∧ sizeW (rowT t) ≤ 12 := by
  rcases rowT_of t with h | h | h | h | h | h <;> rw [h] <;> decide
def askF (t n : Int) : Int := if t = 0 then (if n = 0 then 517 else 0) else if t = 22 then (if 4294967040 < n then 522 else 0) else if t = 17 then (if n ≠ 33024 ∧ n ≠ 34984 then 518 else 0) else if t = 19 then (if n ≠ 34887 ∧ n ≠ 34888 then 518 else 0) else if t = 26 then (if n ≠ 35047 then 518 else 0) else 0
def ir_action_rows : IR :=
(.seq
(.keep [0]
(.reg (oD 2 (.mov (.c (.imm (.int .i64) []))) ::
oD 3 (.mov cF) ::
[])))
(.seq
(.seq
(.reg (oM 4 0 ::
[]))
(.block 0
(.seq
(.block 7
(.block 6
(.seq
(.block 5
(.block 4
(.seq
(.block 3
(.seq
(.block 2
(.seq
(.block 1
(.seq
(.seq
(.seq
(.reg (oD 6 (.bin .eql (.t 4) (cI 0)) ::
oM 5 6 ::
[]))
(.cond (.t 5)
(.exit 1)
.skip))
(.seq
(.seq
(.seq
(.reg (oD 8 (.bin .eql (.t 4) (cI 22)) ::
oM 7 8 ::
[]))
(.cond (.t 7)
.skip
(.seq
(.keep [4]
(.reg (oD 9 (.bin .eql (.t 4) (cI 21)) ::
oM 7 9 ::
[])))
(.cond (.t 7)
.skip
(.reg (oD 10 (.bin .eql (.t 4) (cI 65535)) ::
oM 7 10 ::
[]))))))
(.cond (.t 7)
(.exit 2)
.skip))
(.seq
(.seq
(.seq
(.keep [4]
(.reg (oD 12 (.bin .eql (.t 4) (cI 15)) ::
oM 11 12 ::
[])))
(.cond (.t 11)
.skip
(.reg (oD 13 (.bin .eql (.t 4) (cI 23)) ::
oM 11 13 ::
[]))))
(.cond (.t 11)
(.exit 3)
.skip))
(.seq
(.seq
(.seq
(.reg (oD 15 (.bin .eql (.t 4) (cI 17)) ::
oM 14 15 ::
[]))
(.cond (.t 14)
.skip
(.seq
(.keep [4]
(.reg (oD 16 (.bin .eql (.t 4) (cI 19)) ::
oM 14 16 ::
[])))
(.cond (.t 14)
.skip
(.reg (oD 17 (.bin .eql (.t 4) (cI 26)) ::
oM 14 17 ::
[]))))))
(.cond (.t 14)
(.exit 4)
.skip))
(.seq
(.seq
(.keep [4]
(.reg (oD 19 (.bin .eql (.t 4) (cI 20)) ::
oM 18 19 ::
[])))
(.cond (.t 18)
(.exit 5)
.skip))
(.seq
(.seq
(.seq
(.reg (oD 21 (.bin .eql (.t 4) (cI 11)) ::
oM 20 21 ::
[]))
(.cond (.t 20)
.skip
(.seq
(.reg (oD 22 (.bin .eql (.t 4) (cI 12)) ::
oM 20 22 ::
[]))
(.cond (.t 20)
.skip
(.keep [4]
(.reg (oD 23 (.bin .eql (.t 4) (cI 16)) ::
oM 20 23 ::
[])))))))
(.cond (.t 20)
(.exit 6)
.skip))
(.seq
(.seq
(.keep [4]
(.reg (oD 25 (.bin .eql (.t 4) (cI 18)) ::
oM 24 25 ::
[])))
(.cond (.t 24)
.skip
(.seq
(.reg (oD 26 (.bin .eql (.t 4) (cI 24)) ::
oM 24 26 ::
[]))
(.cond (.t 24)
.skip
(.reg (oD 27 (.bin .eql (.t 4) (cI 27)) ::
oM 24 27 ::
[]))))))
(.cond (.t 24)
(.exit 7)
.skip))))))))
(.exit 0)))
(.seq
(.seq
(.keep []
(.reg (oD 28 (.sliceAll (.int .i64) 3 [(0, 1, (cI 4)), (1, 1, (cI 2)), (2, 1, (cI (-6)))]) ::
oM 2 28 ::
oD 3 (.mov cT) ::
[])))
.ret)
(.exit 0))))
(.seq
(.seq
(.keep []
(.reg (oD 29 (.sliceAll (.int .i64) 1 [(0, 1, (cI 4))]) ::
oM 2 29 ::
oD 3 (.mov cT) ::
[])))
.ret)
(.exit 0))))
(.seq
(.seq
(.keep []
(.reg (oD 30 (.sliceAll (.int .i64) 2 [(0, 1, (cI 1)), (1, 1, (cI (-3)))]) ::
oM 2 30 ::
oD 3 (.mov cT) ::
[])))
.ret)
(.exit 0)))))
(.seq
(.seq
(.keep []
(.reg (oD 31 (.sliceAll (.int .i64) 2 [(0, 1, (cI 2)), (1, 1, (cI (-2)))]) ::
oM 2 31 ::
oD 3 (.mov cT) ::
[])))
.ret)
(.exit 0)))))
(.seq
(.seq
(.keep []
(.reg (oD 32 (.sliceAll (.int .i64) 1 [(0, 1, (cI (-4)))]) ::
oM 2 32 ::
oD 3 (.mov cT) ::
[])))
.ret)
(.exit 0)))))
(.seq
(.keep []
(.reg (oD 2 (.mov (.c (.imm (.int .i64) []))) ::
oD 3 (.mov cF) ::
[])))
.ret)))
def rd_action_rows : List RD := [.tmp 2 true (some (.int .i64)), .tmp 3 true none]
theorem ok_action_rows : fnOk Tryz.prog Tryz.f241 ir_action_rows rd_action_rows = true := by kernel_rfl
def S_action_rows : List AV → List Obj → Option (Prop × AV)
  | [.int .i64 q], [] => some ((True, .tup [.imm (.int .i64) (rowT q), .bool (rowK q)]))
  | _, _ => none
theorem snd_action_rows : SoundS Tryz.prog 241 (RoF S_action_rows).sum := by
  refine ro_fn Tryz.func241 ok_action_rows (env_nil _) fun args objs p v e => ?_
  unfold S_action_rows at e
  split at e
  · rename_i q
    cases e
    refine ⟨rfl, fun hw ho hp => ?_⟩
    clear hw ho
    repeat' (intro t ht; first | (cases t <;> first | (cases ht; done) | ((try simp only [bn_s] at ht); (try simp only [nd_s] at ht); (try (exfalso; first | contradiction | omega)))) | (refine ht ?_ ?_ <;> clear ht) | (refine ht.1 ?_ ?_ <;> clear ht) | (refine ht ?_; clear ht))
    all_goals first
      | exact True.intro
      | (have h := rowT_no (t := q) (by omega)
         rw [h.1, h.2]; exact ⟨rfl, rfl⟩)
      | (subst_vars; exact ⟨rfl, rfl⟩)
      | (have h : q = 0 ∨ (q = 22 ∨ q = 21 ∨ q = 65535) ∨ (q = 15 ∨ q = 23) ∨ (q = 17 ∨ q = 19 ∨ q = 26 ∨ q = 20) ∨ (q = 11 ∨ q = 12 ∨ q = 16 ∨ q = 18 ∨ q = 24 ∨ q = 27) := by omega
         rcases h with rfl | (rfl | rfl | rfl) | (rfl | rfl) | (rfl | rfl | rfl | rfl) | (rfl | rfl | rfl | rfl | rfl | rfl) <;> first | (exfalso; omega) | exact ⟨rfl, rfl⟩)
      | trace_state
  · cases e
def ir_action_asked : IR :=
(.seq
(.keep [0, 1]
(.reg (oD 4 (.mov (cI 0)) ::
[])))
(.seq
(.block 0
(.seq
(.keep [0, 1]
(.reg (oM 6 0 ::
oD 7 (.bin .eql (.t 6) (cI 0)) ::
oM 8 7 ::
oT 8 9 (.mov (.t 1)) ::
oT 8 10 (.bin .eql (.t 9) (.c (.int .u64 0))) ::
oD 11 (.pick (.t 8) (.t 10) cF) ::
oM 5 11 ::
[])))
(.cond (.t 5)
(.seq
(.keep []
(.reg (oD 4 (.mov (cI 517)) ::
[])))
.ret)
(.seq
(.keep [0, 1]
(.reg (oM 13 0 ::
oD 14 (.bin .eql (.t 13) (cI 22)) ::
oM 15 14 ::
oT 15 16 (.mov (.t 1)) ::
oT 15 17 (.bin .gtr (.t 16) (.c (.int .u64 4294967040))) ::
oD 18 (.pick (.t 15) (.t 17) cF) ::
oM 12 18 ::
[])))
(.cond (.t 12)
(.seq
(.keep []
(.reg (oD 4 (.mov (cI 522)) ::
[])))
.ret)
(.seq
(.keep [0, 1]
(.reg (oM 20 0 ::
oD 21 (.bin .eql (.t 20) (cI 17)) ::
oM 22 21 ::
oT 22 23 (.mov (.t 1)) ::
oT 22 24 (.bin .neq (.t 23) (.c (.int .u64 33024))) ::
oD 25 (.pick (.t 22) (.t 24) cF) ::
oM 26 25 ::
oT 26 27 (.mov (.t 1)) ::
oT 26 28 (.bin .neq (.t 27) (.c (.int .u64 34984))) ::
oD 29 (.pick (.t 26) (.t 28) cF) ::
oM 19 29 ::
[])))
(.cond (.t 19)
(.seq
(.keep []
(.reg (oD 4 (.mov (cI 518)) ::
[])))
.ret)
(.seq
(.keep [0, 1]
(.reg (oM 31 0 ::
oD 32 (.bin .eql (.t 31) (cI 19)) ::
oM 33 32 ::
oT 33 34 (.mov (.t 1)) ::
oT 33 35 (.bin .neq (.t 34) (.c (.int .u64 34887))) ::
oD 36 (.pick (.t 33) (.t 35) cF) ::
oM 37 36 ::
oT 37 38 (.mov (.t 1)) ::
oT 37 39 (.bin .neq (.t 38) (.c (.int .u64 34888))) ::
oD 40 (.pick (.t 37) (.t 39) cF) ::
oM 30 40 ::
[])))
(.cond (.t 30)
(.seq
(.keep []
(.reg (oD 4 (.mov (cI 518)) ::
[])))
.ret)
(.seq
(.keep [0, 1]
(.reg (oM 42 0 ::
oD 43 (.bin .eql (.t 42) (cI 26)) ::
oM 44 43 ::
oT 44 45 (.mov (.t 1)) ::
oT 44 46 (.bin .neq (.t 45) (.c (.int .u64 35047))) ::
oD 47 (.pick (.t 44) (.t 46) cF) ::
oM 41 47 ::
[])))
(.cond (.t 41)
(.seq
(.keep []
(.reg (oD 4 (.mov (cI 518)) ::
[])))
.ret)
.skip)))))))))))
(.seq
(.keep []
(.reg (oD 4 (.mov (cI 0)) ::
[])))
.ret)))
def rd_action_asked : List RD := [.tmp 4 true none]
theorem ok_action_asked : fnOk Tryz.prog Tryz.f269 ir_action_asked rd_action_asked = true := by kernel_rfl
def S_action_asked : List AV → List Obj → Option (Prop × AV)
  | [.int .i64 q, .int .u64 n], [] => some ((True, .int .i64 (askF q n)))
  | _, _ => none
theorem snd_action_asked : SoundS Tryz.prog 269 (RoF S_action_asked).sum := by
  refine ro_fn Tryz.func269 ok_action_asked (env_nil _) fun args objs p v e => ?_
  unfold S_action_asked at e
  split at e
  · rename_i q n
    cases e
    refine ⟨rfl, fun hw ho hp => ?_⟩
    clear hw ho
    repeat' (intro t ht; first | (cases t <;> first | (cases ht; done) | ((try simp only [bn_s] at ht); (try simp only [nd_s] at ht); (try (exfalso; first | contradiction | omega)))) | (refine ht ?_ ?_ <;> clear ht) | (refine ht.1 ?_ ?_ <;> clear ht) | (refine ht ?_; clear ht))
    all_goals first
      | exact True.intro
      | (refine ⟨congrArg (AV.int .i64) ?_, rfl⟩; unfold askF; repeat' split
         all_goals first | rfl | omega)
      | trace_state
  · cases e
def ir_action_settable : IR :=
(.seq
(.keep [0]
(.reg (oD 1 (.boxv (.t 0)) ::
oD 2 (.mov cF) ::
[])))
(.seq
(.keep [1]
(.reg (oD 3 (.fieldAddr 0 (.t 1)) ::
oL 4 3 ::
oD 5 (.bin .eql (.t 4) (cI 32768)) ::
oM 6 5 ::
oT 6 7 (.fieldAddr 2 (.t 1)) ::
oT 6 8 (.load none (.t 7)) ::
oT 6 9 (.un .not (.t 8)) ::
oD 10 (.pick (.t 6) (.t 9) cF) ::
oM 11 10 ::
oT 11 12 (.fieldAddr 1 (.t 1)) ::
oT 11 13 (.load none (.t 12)) ::
oT 11 14 (.call false (.f 286) [(.t 13)]) ::
oD 15 (.pick (.t 11) (.t 14) cF) ::
oM 16 15 ::
oT 16 17 (.load (some 6) (.t 1)) ::
oT 16 18 (.call false (.f 246) [(.t 17)]) ::
oD 19 (.pick (.t 16) (.t 18) cF) ::
oM 2 19 ::
[])))
.ret))
def rd_action_settable : List RD := [.tmp 2 true none]
theorem ok_action_settable : fnOk Tryz.prog Tryz.f267 ir_action_settable rd_action_settable = true := by kernel_rfl
def S_action_settable : List AV → List Obj → Option (Prop × AV)
  | [.agg [.int .i64 c, .int .i64 f, .bool h, .int .u64 x, .imm (.int .u8) v, .imm (.int .u8) m]], [] => some ((v.length ≤ 1000000 ∧ m.length ≤ 1000000, .bool (decide (c = 32768) && !h && settF f && rightO c f h x v m)))
  | _, _ => none
theorem snd_action_settable : SoundS Tryz.prog 267 (RoF S_action_settable).sum := by
  refine ro_fn Tryz.func267 ok_action_settable (env_cons (s := RoF S_field_Settable) snd_field_Settable (env_cons (s := RoF S_oxm_Right) snd_oxm_Right (env_nil _))) fun args objs p v e => ?_
  unfold S_action_settable at e
  split at e
  · rename_i c f h x v m
    cases e
    refine ⟨rfl, fun hw ho hp => ?_⟩
    change List Int at v
    change List Int at m
    clear hw ho
    cases h
    all_goals repeat' (intro t ht; first | (cases t <;> first | (cases ht; done) | ((try simp only [bn_s] at ht); (try simp only [nd_s] at ht); (try (exfalso; first | contradiction | omega)))) | (refine ht ?_ ?_ <;> clear ht) | (refine ht.1 ?_ ?_ <;> clear ht) | (refine ht ?_; clear ht))
    all_goals first
      | exact True.intro
      | exact hp
      | (refine ⟨congrArg AV.bool ?_, rfl⟩; simp_all; done)
      | trace_state
  · cases e
def ir_action_bare : IR :=
(.seq
(.keep [0]
(.reg (oD 1 (.boxv (.t 0)) ::
oD 2 (.mov cF) ::
[])))
(.seq
(.reg (oD 3 (.load (some 6) (.t 1)) ::
oD 4 (.build [.int .i64 0, .int .i64 0, .kb false, .int .u64 0, .imm (.int .u8) [], .imm (.int .u8) []] []) ::
oD 5 (.call false (.f 174) [(.t 3), (.t 4)]) ::
oM 2 5 ::
[]))
.ret))
def rd_action_bare : List RD := [.tmp 2 true none]
theorem ok_action_bare : fnOk Tryz.prog Tryz.f268 ir_action_bare rd_action_bare = true := by kernel_rfl
def S_action_bare : List AV → List Obj → Option (Prop × AV)
  | [.agg [.int .i64 c, .int .i64 f, .bool h, .int .u64 x, .imm (.int .u8) v, .imm (.int .u8) m]], [] => some ((True, .bool (sameO c f h x v m 0 0 false 0 [] [])))
  | _, _ => none
theorem snd_action_bare : SoundS Tryz.prog 268 (RoF S_action_bare).sum := by
  refine ro_fn Tryz.func268 ok_action_bare (env_cons (s := RoF S_oxm_Same) snd_oxm_Same (env_nil _)) fun args objs p v e => ?_
  unfold S_action_bare at e
  split at e
  · rename_i c f h x v m
    cases e
    refine ⟨rfl, fun hw ho hp => ?_⟩
    change List Int at v
    change List Int at m
    clear hw ho
    repeat' (intro t ht; first | (cases t <;> first | (cases ht; done) | ((try simp only [bn_s] at ht); (try simp only [nd_s] at ht); (try (exfalso; first | contradiction | omega)))) | (refine ht ?_ ?_ <;> clear ht) | (refine ht.1 ?_ ?_ <;> clear ht) | (refine ht ?_; clear ht))
    all_goals first
      | exact True.intro
      | exact ⟨rfl, rfl⟩
      | trace_state
  · cases e
def numsA (t a b : Int) : List Int := [a, b].take (countW (rowT t)).toNat
def rightA (R : Bool) (t a b c f : Int) (h : Bool) (x : Int) (v m d : List Int) : Bool :=
  if t = 25 then decide (a = 0) && decide (b = 0) && decide (d.length = 0) && (decide (c = 32768) && !h && settF f && R)
  else rowK t && sameO c f h x v m 0 0 false 0 [] [] && decide (askF t a = 0) && putK (rowT t) (numsA t a b) && (decide (2 ≤ countW (rowT t)) || decide (b = 0)) && (decide (1 ≤ countW (rowT t)) || decide (a = 0)) && (if t = 65535 then decide ((d.length : Int).tmod 8 = 0) && decide ((d.length : Int) ≤ 65520) else decide (d.length = 0))
def ir_action_Right : IR :=
(.seq
(.keep [0]
(.reg (oD 1 (.boxv (.t 0)) ::
oD 2 (.mov cF) ::
[])))
(.seq
(.seq
(.reg (oD 8 (.fieldAddr 0 (.t 1)) ::
oL 9 8 ::
oD 10 (.bin .eql (.t 9) (cI 25)) ::
[]))
(.cond (.t 10)
(.seq
(.keep [1]
(.reg (oD 11 (.fieldAddr 1 (.t 1)) ::
oL 12 11 ::
oD 13 (.bin .eql (.t 12) (.c (.int .u64 0))) ::
oM 14 13 ::
oT 14 15 (.fieldAddr 2 (.t 1)) ::
oT 14 16 (.load none (.t 15)) ::
oT 14 17 (.bin .eql (.t 16) (.c (.int .u64 0))) ::
oD 18 (.pick (.t 14) (.t 17) cF) ::
oM 19 18 ::
oT 19 20 (.fieldAddr 9 (.t 1)) ::
oT 19 21 (.load none (.t 20)) ::
oT 19 22 (.len (.t 21)) ::
oT 19 23 (.bin .eql (.t 22) (cI 0)) ::
oD 24 (.pick (.t 19) (.t 23) cF) ::
oM 25 24 ::
oT 25 26 (.fieldAddr 3 (.t 1)) ::
oT 25 27 (.load (some 6) (.t 26)) ::
oT 25 28 (.call false (.f 267) [(.t 27)]) ::
oD 29 (.pick (.t 25) (.t 28) cF) ::
oM 2 29 ::
[])))
.ret)
.skip))
(.seq
(.keep [1]
(.reg (oD 31 (.fieldAddr 0 (.t 1)) ::
oL 32 31 ::
oD 33 (.call false (.f 241) [(.t 32)]) ::
oM 30 33 ::
oD 34 (.extract (.t 30) 0) ::
oD 35 (.extract (.t 30) 1) ::
oM 3 34 ::
oM 4 35 ::
[])))
(.seq
(.seq
(.keep [1, 3, 4]
(.reg (oM 36 4 ::
oD 37 (.un .not (.t 36)) ::
oM 38 37 ::
oF 38 39 (.fieldAddr 3 (.t 1)) ::
oF 38 40 (.load (some 6) (.t 39)) ::
oF 38 41 (.call false (.f 268) [(.t 40)]) ::
oF 38 42 (.un .not (.t 41)) ::
oD 43 (.pick (.t 38) cT (.t 42)) ::
oM 44 43 ::
oF 44 45 (.fieldAddr 0 (.t 1)) ::
oF 44 46 (.load none (.t 45)) ::
oF 44 47 (.fieldAddr 1 (.t 1)) ::
oF 44 48 (.load none (.t 47)) ::
oF 44 49 (.call false (.f 269) [(.t 46), (.t 48)]) ::
oF 44 50 (.bin .neq (.t 49) (cI 0)) ::
oD 51 (.pick (.t 44) cT (.t 50)) ::
[])))
(.cond (.t 51)
(.seq
(.keep []
(.reg (oD 2 (.mov cF) ::
[])))
.ret)
.skip))
(.seq
(.keep [1, 3]
(.reg (oM 52 3 ::
oD 53 (.call false (.f 218) [(.t 52)]) ::
oM 5 53 ::
[])))
(.seq
(.keep [1, 3, 5]
(.reg (oM 55 3 ::
oD 56 (.fieldAddr 1 (.t 1)) ::
oL 57 56 ::
oD 58 (.fieldAddr 2 (.t 1)) ::
oL 59 58 ::
oD 60 (.sliceAll (.int .u64) 2 [(0, 1, (.t 57)), (1, 1, (.t 59))]) ::
oM 61 5 ::
oD 62 (.slice 1 (.t 60) none (some (.t 61)) none) ::
oD 63 (.call false (.f 167) [(.t 55), (.t 62)]) ::
oM 54 63 ::
oD 64 (.extract (.t 54) 0) ::
oD 65 (.extract (.t 54) 1) ::
oM 6 64 ::
oM 7 65 ::
[])))
(.seq
(.seq
(.keep [1, 5, 7]
(.reg (oM 66 7 ::
oD 67 (.un .not (.t 66)) ::
oM 68 67 ::
oF 68 69 (.mov (.t 5)) ::
oF 68 70 (.bin .lss (.t 69) (cI 2)) ::
oF 68 71 (.mov (.t 70)) ::
oT 71 72 (.fieldAddr 2 (.t 1)) ::
oT 71 73 (.load none (.t 72)) ::
oT 71 74 (.bin .neq (.t 73) (.c (.int .u64 0))) ::
oF 68 75 (.pick (.t 71) (.t 74) cF) ::
oD 76 (.pick (.t 68) cT (.t 75)) ::
oM 77 76 ::
oF 77 78 (.mov (.t 5)) ::
oF 77 79 (.bin .lss (.t 78) (cI 1)) ::
oF 77 80 (.mov (.t 79)) ::
oT 80 81 (.fieldAddr 1 (.t 1)) ::
oT 80 82 (.load none (.t 81)) ::
oT 80 83 (.bin .neq (.t 82) (.c (.int .u64 0))) ::
oF 77 84 (.pick (.t 80) (.t 83) cF) ::
oD 85 (.pick (.t 77) cT (.t 84)) ::
[])))
(.cond (.t 85)
(.seq
(.keep []
(.reg (oD 2 (.mov cF) ::
[])))
.ret)
.skip))
(.seq
(.seq
(.keep [1]
(.reg (oD 86 (.fieldAddr 0 (.t 1)) ::
oL 87 86 ::
oD 88 (.bin .neq (.t 87) (cI 65535)) ::
[])))
(.cond (.t 88)
(.seq
(.keep [1]
(.reg (oD 89 (.fieldAddr 9 (.t 1)) ::
oL 90 89 ::
oD 91 (.len (.t 90)) ::
oD 92 (.bin .eql (.t 91) (cI 0)) ::
oM 2 92 ::
[])))
.ret)
.skip))
(.seq
(.keep [1]
(.reg (oD 93 (.fieldAddr 9 (.t 1)) ::
oL 94 93 ::
oD 95 (.len (.t 94)) ::
oD 96 (.bin .rem (.t 95) (cI 8)) ::
oD 97 (.bin .eql (.t 96) (cI 0)) ::
oM 98 97 ::
oT 98 99 (.fieldAddr 9 (.t 1)) ::
oT 98 100 (.load none (.t 99)) ::
oT 98 101 (.len (.t 100)) ::
oT 98 102 (.bin .leq (.t 101) (cI 65520)) ::
oD 103 (.pick (.t 98) (.t 102) cF) ::
oM 2 103 ::
[])))
.ret)))))))))
def rd_action_Right : List RD := [.tmp 2 true none]
theorem ok_action_Right : fnOk Tryz.prog Tryz.f239 ir_action_Right rd_action_Right = true := by kernel_rfl
def S_action_Right : List AV → List Obj → Option (Prop × AV)
  | [.agg [.int .i64 q, .int .u64 a, .int .u64 b, .int .i64 c, .int .i64 f, .bool h, .int .u64 x, .imm (.int .u8) v, .imm (.int .u8) m, .imm (.int .u8) d]], [] => some ((v.length ≤ 1000000 ∧ m.length ≤ 1000000, .bool (rightA (rightO c f h x v m) q a b c f h x v m d)))
  | _, _ => none
theorem snd_action_Right : SoundS Tryz.prog 239 (RoF S_action_Right).sum := by
  refine ro_fn Tryz.func239 ok_action_Right (env_cons (s := RoF S_action_settable) snd_action_settable (env_cons (s := RoF S_action_rows) snd_action_rows (env_cons (s := RoF S_action_bare) snd_action_bare (env_cons (s := RoF S_action_asked) snd_action_asked (env_cons (s := RoF S_row_Count) snd_row_Count (env_cons (s := RoF S_row_Put) snd_row_Put (env_nil _))))))) fun args objs p v e => ?_
  unfold S_action_Right at e
  split at e
  · rename_i q a b c f h x v m d
    cases e
    refine ⟨rfl, fun hw ho hp => ?_⟩
    change List Int at v
    change List Int at m
    change List Int at d
    have hdl : d.length ≤ maxLen := (hw _ (List.mem_cons_self ..) (.imm (.int .u8) d) (by simp)).2
    unfold maxLen at hdl
    clear hw ho
    have hcn := cnt_le q
    by_cases h25 : q = 25
    · subst h25
      repeat' (intro t ht; first | (cases t <;> first | (cases ht; done) | ((try simp only [bn_s] at ht); (try simp only [nd_s] at ht); (try (exfalso; first | contradiction | omega)))) | (refine ht ?_ ?_ <;> clear ht) | (refine ht.1 ?_ ?_ <;> clear ht) | (refine ht ?_; clear ht))
      all_goals first
        | exact True.intro
        | exact hp
        | ((try simp only [nd_s, bn_s, mm_s] at *); omega)
        | (refine ⟨congrArg AV.bool ?_, rfl⟩; unfold rightA; rw [if_pos rfl]; simp_all; done)
        | trace_state
    · repeat' (intro t ht; first | (cases t <;> first | (cases ht; done) | ((try simp only [bn_s] at ht); (try simp only [nd_s] at ht); (try (exfalso; first | contradiction | omega)))) | (refine ht ?_ ?_ <;> clear ht) | (refine ht.1 ?_ ?_ <;> clear ht) | (refine ht ?_; clear ht))
      all_goals first
        | exact True.intro
        | exact hp
        | ((try simp only [nd_s, bn_s, mm_s] at *); omega)
        | (refine ⟨congrArg AV.bool ?_, rfl⟩; unfold rightA numsA; rw [if_neg h25]; simp_all; done)
        | (refine ⟨congrArg AV.bool ?_, rfl⟩; unfold rightA numsA; rw [if_neg h25]; simp_all; omega)
        | trace_state
  · cases e
def sizeA (R : Bool) (S : Int) (t a b c f : Int) (h : Bool) (x : Int) (v m d : List Int) : Int := if rightA R t a b c f h x v m d = true then (if t = 25 then (4 + S + 8 - 1).tdiv 8 * 8 else 4 + sizeW (rowT t) + d.length) else 0
theorem right_len2 {R : Bool} {t a b c f : Int} {h : Bool} {x : Int} {v m d : List Int} (hr : rightA R t a b c f h x v m d = true) : d.length ≤ 65520 := by
  unfold rightA at hr
  split at hr
  · simp only [Bool.and_eq_true, decide_eq_true_eq] at hr; omega
  · simp only [Bool.and_eq_true] at hr
    have := hr.2
    split at this
    · simp only [Bool.and_eq_true, decide_eq_true_eq] at this; omega
    · simp only [decide_eq_true_eq] at this; omega
theorem sizeO_le {c f : Int} {h : Bool} {x : Int} {v m : List Int} (hv : v.length ≤ 1000000) (hm : m.length ≤ 1000000) : 0 ≤ sizeO c f h x v m ∧ sizeO c f h x v m ≤ 3000000 := by
  unfold sizeO restO; repeat' split
  all_goals omega
def ir_action_Size : IR :=
(.seq
(.keep [0]
(.reg (oD 1 (.boxv (.t 0)) ::
oD 2 (.mov (cI 0)) ::
[])))
(.seq
(.seq
(.reg (oD 5 (.load (some 10) (.t 1)) ::
oD 6 (.call false (.f 239) [(.t 5)]) ::
oD 7 (.un .not (.t 6)) ::
[]))
(.cond (.t 7)
(.seq
(.reg (oD 2 (.mov (cI 0)) ::
[]))
.ret)
.skip))
(.seq
(.seq
(.keep [1]
(.reg (oD 8 (.fieldAddr 0 (.t 1)) ::
oL 9 8 ::
oD 10 (.bin .eql (.t 9) (cI 25)) ::
[])))
(.cond (.t 10)
(.seq
(.keep [1]
(.reg (oD 11 (.fieldAddr 3 (.t 1)) ::
oD 12 (.load (some 6) (.t 11)) ::
oD 13 (.call false (.f 240) [(.t 12)]) ::
oD 14 (.bin .add (cI 4) (.t 13)) ::
oD 15 (.bin .add (.t 14) (cI 8)) ::
oD 16 (.bin .sub (.t 15) (cI 1)) ::
oD 17 (.bin .quo (.t 16) (cI 8)) ::
oD 18 (.bin .mul (.t 17) (cI 8)) ::
oM 2 18 ::
[])))
.ret)
.skip))
(.seq
(.keep [1]
(.reg (oD 20 (.fieldAddr 0 (.t 1)) ::
oL 21 20 ::
oD 22 (.call false (.f 241) [(.t 21)]) ::
oM 19 22 ::
oD 23 (.extract (.t 19) 0) ::
oD 24 (.extract (.t 19) 1) ::
oM 3 23 ::
oM 4 24 ::
[])))
(.seq
(.keep [1, 3]
(.regD ((oM 25 3, []) ::
(oD 26 (.call false (.f 130) [(.t 25)]), []) ::
(oD 27 (.bin .add (cI 4) (.t 26)), []) ::
(oD 28 (.fieldAddr 9 (.t 1)), [0, 0, 0]) ::
(oL 29 28, [1, 0, 0]) ::
(oD 30 (.len (.t 29)), [2, 0, 0]) ::
(oD 31 (.bin .add (.t 27) (.t 30)), []) ::
(oM 2 31, []) ::
[])))
.ret)))))
def rd_action_Size : List RD := [.tmp 2 true none]
theorem ok_action_Size : fnOk Tryz.prog Tryz.f201 ir_action_Size rd_action_Size = true := by kernel_rfl
def S_action_Size : List AV → List Obj → Option (Prop × AV)
  | [.agg [.int .i64 q, .int .u64 a, .int .u64 b, .int .i64 c, .int .i64 f, .bool h, .int .u64 x, .imm (.int .u8) v, .imm (.int .u8) m, .imm (.int .u8) d]], [] => some ((v.length ≤ 1000000 ∧ m.length ≤ 1000000, .int .i64 (sizeA (rightO c f h x v m) (sizeO c f h x v m) q a b c f h x v m d)))
  | _, _ => none
theorem snd_action_Size : SoundS Tryz.prog 201 (RoF S_action_Size).sum := by
  refine ro_fn Tryz.func201 ok_action_Size (env_cons (s := RoF S_action_Right) snd_action_Right (env_cons (s := RoF S_oxm_Size) snd_oxm_Size (env_cons (s := RoF S_action_rows) snd_action_rows (env_cons (s := RoF S_row_Size) snd_row_Size (env_nil _))))) fun args objs p v e => ?_
  unfold S_action_Size at e
  split at e
  · rename_i q a b c f h x v m d
    cases e
    refine ⟨rfl, fun hw ho hp => ?_⟩
    change List Int at v
    change List Int at m
    change List Int at d
    clear hw ho
    have hs := sizeO_le (c := c) (f := f) (h := h) (x := x) hp.1 hp.2
    have hz := siz_le q
    have htd : (4 + sizeO c f h x v m + 8 - 1).tdiv 8 = (4 + sizeO c f h x v m + 8 - 1) / 8 := Int.tdiv_eq_ediv_of_nonneg (by omega)
    cases hr : rightA (rightO c f h x v m) q a b c f h x v m d with
    | false =>
      repeat' (intro t ht; first | (cases t <;> first | (cases ht; done) | ((try simp only [bn_s] at ht); (try simp only [nd_s] at ht); (try (exfalso; first | contradiction | omega)))) | (refine ht ?_ ?_ <;> clear ht) | (refine ht.1 ?_ ?_ <;> clear ht) | (refine ht ?_; clear ht))
      all_goals first
        | exact True.intro
        | exact hp
        | (exfalso; simp_all; done)
        | (refine ⟨?_, rfl⟩; unfold sizeA; rw [hr]; rfl)
        | trace_state
    | true =>
      have hl := right_len2 hr
      repeat' (intro t ht; first | (cases t <;> first | (cases ht; done) | ((try simp only [bn_s] at ht); (try simp only [nd_s] at ht); (try (exfalso; first | contradiction | omega)))) | (refine ht ?_ ?_ <;> clear ht) | (refine ht.1 ?_ ?_ <;> clear ht) | (refine ht ?_; clear ht))
      all_goals first
        | exact True.intro
        | exact hp
        | (exfalso; simp_all; done)
        | ((try simp only [nd_s, bn_s, mm_s] at *); omega)
        | (rw [htd]; (try simp only [nd_s, bn_s, mm_s] at *); omega)
        | (refine ⟨congrArg (AV.int .i64) ?_, rfl⟩; unfold sizeA; rw [if_pos hr, if_pos (by assumption)]; done)
        | (refine ⟨congrArg (AV.int .i64) ?_, rfl⟩; unfold sizeA; rw [if_pos hr, if_neg (by assumption)]; done)
        | trace_state
  · cases e
def ir_buffer_Buffer_Len : IR :=
(.seq
(.keep [0]
(.reg (oD 2 (.mov (cI 0)) ::
[])))
(.seq
(.seq
(.reg (oM 3 0 ::
oD 4 (.call false (.f 82) [(.t 3)]) ::
[]))
(.cond (.t 4)
(.seq
(.reg (oD 2 (.mov (cI 0)) ::
[]))
.ret)
.skip))
(.seq
(.keep [0]
(.reg (oM 5 0 ::
oD 6 (.nilck (.t 5)) ::
oD 7 (.fieldAddr 0 (.t 6)) ::
oL 8 7 ::
oD 9 (.len (.t 8)) ::
oM 2 9 ::
[])))
.ret)))
def rd_buffer_Buffer_Len : List RD := [.tmp 2 true none]
theorem ok_buffer_Buffer_Len : fnOk Tryz.prog Tryz.f270 ir_buffer_Buffer_Len rd_buffer_Buffer_Len = true := by kernel_rfl
def S_buffer_Buffer_Len : List AV → List Obj → Option (Prop × AV)
  | [.ptr 0 0], [.box [.own 1, .int .i64 room, .mapv 2, .int .i64 e], .row false (.int .u8) l, .map sq (.int .i64) (.int .i64) h] => some ((True, .int .i64 l.length))
  | _, _ => none
theorem snd_buffer_Buffer_Len : SoundS Tryz.prog 270 (RoF S_buffer_Buffer_Len).sum := by
  refine ro_fn Tryz.func270 ok_buffer_Buffer_Len (env_cons (s := RoF S_buffer_Buffer_none) snd_buffer_Buffer_none (env_nil _)) fun args objs p v e => ?_
  unfold S_buffer_Buffer_Len at e
  split at e
  · rename_i room e l sq h
    cases e
    refine ⟨rfl, fun hw ho hp => ?_⟩
    change List Int at l
    repeat' (intro t ht; first | (cases t <;> first | (cases ht; done) | ((try simp only [bn_s] at ht); (try simp only [nd_s] at ht))) | (refine ht ?_ ?_ <;> clear ht) | (refine ht.1 ?_ ?_ <;> clear ht) | (refine ht ?_; clear ht))
    all_goals first
      | exact True.intro
      | exact ⟨rfl, rfl⟩
      | trace_state
  · cases e
def evZ (s : Int) (n : Nat) : List Int := List.replicate ((s - (n : Int).tmod s).tmod s).toNat 0
theorem tmod_bd {a s : Int} (ha : 0 ≤ a) (hs : 1 ≤ s) : 0 ≤ a.tmod s ∧ a.tmod s < s := by
  rw [Int.tmod_eq_emod_of_nonneg ha]; exact ⟨Int.emod_nonneg _ (by omega), Int.emod_lt_of_pos _ (by omega)⟩
def ir_buffer_Buffer_Even : IR :=
(.seq
(.seq
(.keep [0, 1]
(.reg (oM 4 1 ::
oD 5 (.bin .lss (.t 4) (cI 1)) ::
oM 6 5 ::
oF 6 7 (.mov (.t 1)) ::
oF 6 8 (.bin .gtr (.t 7) (cI 64)) ::
oD 9 (.pick (.t 6) cT (.t 8)) ::
[])))
(.cond (.t 9)
(.seq
(.keep [0]
(.reg (oM 10 0 ::
oD 11 (.call false (.f 83) [(.t 10), (cI 10001)]) ::
[])))
.ret)
.skip))
(.keep [0, 1]
(.reg (oM 12 0 ::
oM 13 1 ::
oM 14 0 ::
oD 15 (.call false (.f 270) [(.t 14)]) ::
oM 16 1 ::
oD 17 (.bin .rem (.t 15) (.t 16)) ::
oD 18 (.bin .sub (.t 13) (.t 17)) ::
oM 19 1 ::
oD 20 (.bin .rem (.t 18) (.t 19)) ::
oD 21 (.mkrow (.int .u8) 1 (0 : Int) (.t 20) (.t 20)) ::
oD 22 (.call false (.f 39) [(.t 12), (.t 21)]) ::
[]))))
def rd_buffer_Buffer_Even : List RD := []
theorem ok_buffer_Buffer_Even : fnOk Tryz.prog Tryz.f242 ir_buffer_Buffer_Even rd_buffer_Buffer_Even = true := by kernel_rfl
def S_buffer_Buffer_Even : List AV → List Obj → Option (Prop × AV × List Obj)
  | [.ptr 0 0, .int .i64 s], [.box [.own 1, .int .i64 room, .mapv 2, .int .i64 e], .row false (.int .u8) l, .map sq (.int .i64) (.int .i64) h] => some ((0 ≤ room ∧ room ≤ 1000000 ∧ l.length ≤ 1000000 ∧ 1 ≤ s ∧ s ≤ 64, .tup [], [.box [.own 3, .int .i64 room, .mapv 2, .int .i64 (bufE (evZ s l.length) l room e)], .dead, .map sq (.int .i64) (.int .i64) h, .row false (.int .u8) (bufB (evZ s l.length) l room e)]))
  | _, _ => none
theorem snd_buffer_Buffer_Even : SoundS Tryz.prog 242 (RwF S_buffer_Buffer_Even).sum := by
  refine rw_fn Tryz.func242 ok_buffer_Buffer_Even (env_cons (s := RwF S_buffer_Buffer_Fail) snd_buffer_Buffer_Fail (env_cons (s := RoF S_buffer_Buffer_Len) snd_buffer_Buffer_Len (env_cons (s := RwF S_buffer_Buffer_Bytes) snd_buffer_Buffer_Bytes (env_nil _)))) fun args objs p v o e => ?_
  unfold S_buffer_Buffer_Even at e
  split at e
  · rename_i s room e l sq h
    cases e
    refine ⟨rfl, fun hw ho hp => ?_⟩
    change List Int at l
    clear hw ho
    have b1 := tmod_bd (a := (l.length : Int)) (s := s) (by omega) (by omega)
    have b2 := tmod_bd (a := s - (l.length : Int).tmod s) (s := s) (by omega) (by omega)
    repeat' (intro t ht; first | (cases t <;> first | (cases ht; done) | ((try simp only [bn_s] at ht); (try simp only [nd_s] at ht); (try (exfalso; first | contradiction | omega)))) | (refine ht ?_ ?_ <;> clear ht) | (refine ht.1 ?_ ?_ <;> clear ht) | (refine ht ?_; clear ht))
    all_goals first
      | exact True.intro
      | ((try simp only [nd_s, bn_s, mm_s] at *); omega)
      | exact ⟨hp.1, hp.2.1, hp.2.2.1, by rw [List.length_replicate]; omega⟩
      | exact ⟨rfl, rfl⟩
      | trace_state
  · cases e
end Go.Eng
namespace Go.Eng
open Go.Proofs
set_option linter.unusedVariables false
set_option linter.unusedSimpArgs false
set_option maxRecDepth 100000
set_option maxHeartbeats 1000000
def bodyA (t a b : Int) (E d : List Int) : List Int := if t = 25 then E ++ List.replicate ((8 - (4 + E.length) % 8) % 8) 0 else putB (rowT t) (numsA t a b) ++ d
def encA (t a b : Int) (E d : List Int) : List Int := bytesN t 2 ++ bytesN (4 + (bodyA t a b E d).length) 2 ++ bodyA t a b E d
theorem row22 {a n : Int} (ha : 0 ≤ a ∧ a ≤ 65535) (hn : 0 ≤ n ∧ n ≤ 65535) : putB [2, 2] [a, n] = bytesN a 2 ++ bytesN n 2 ∧ putK [2, 2] [a, n] = true := by
  have e1 : a.fdiv (2 ^ 16) = 0 := by rw [Int.fdiv_eq_ediv_of_nonneg _ (by decide)]; omega
  have e2 : n.fdiv (2 ^ 16) = 0 := by rw [Int.fdiv_eq_ediv_of_nonneg _ (by decide)]; omega
  have h : putF [2, 2] [a, n] = some (bytesN a 2 ++ bytesN n 2) := by
    unfold putF
    rw [if_pos ⟨by decide, (by decide : countW [2, 2] = 2)⟩]
    have m : min (8 * (2 : Int)).toNat 64 = 16 := by decide
    simp only [putA, m]
    rw [if_neg (by decide), if_neg (by rintro ⟨_, h⟩; exact h e1), if_neg (by decide), if_neg (by rintro ⟨_, h⟩; exact h e2)]
    rfl
  unfold putB putK; rw [h]; exact ⟨rfl, rfl⟩
theorem buf_ok {x l : List Int} {room : Int} (h : (x.length : Int) ≤ room - l.length) : bufB x l room 0 = l ++ x ∧ bufE x l room 0 = 0 := by
  have hb : bufOk x l room 0 = true := by unfold bufOk; rw [decide_eq_true h]; rfl
  exact ⟨by unfold bufB; rw [if_pos hb], by unfold bufE; rw [if_pos rfl, if_pos h]⟩
theorem row_ok {w xs l : List Int} {room : Int} (hk : putK w xs = true) (h : ((putB w xs).length : Int) ≤ room - l.length) : rowB w xs l room 0 = l ++ putB w xs ∧ rowE w xs l room 0 = 0 := by
  unfold rowB rowE; rw [if_pos hk, if_pos hk]; exact buf_ok h
theorem bufB_lim {x l : List Int} {room e : Int} (h : l.length ≤ 1000000) (hr : room ≤ 1000000) : (bufB x l room e).length ≤ 1000000 := by
  unfold bufB bufOk; split
  · rename_i hb; simp only [Bool.and_eq_true, decide_eq_true_eq] at hb; rw [List.length_append]; omega
  · exact h
theorem rowB_lim {w xs l : List Int} {room e : Int} (h : l.length ≤ 1000000) (hr : room ≤ 1000000) : (rowB w xs l room e).length ≤ 1000000 := by
  unfold rowB; split
  · exact bufB_lim h hr
  · exact h
theorem putB_size {w xs : List Int} (hk : putK w xs = true) : ((putB w xs).length : Int) = sizeW w := by
  unfold putK at hk
  obtain ⟨r, hr⟩ := Option.isSome_iff_exists.1 hk
  have hb : putB w xs = r := by unfold putB; rw [hr]; rfl
  rw [hb]
  unfold putF at hr
  split at hr
  · rename_i h
    have := putA_len w xs [] r (rightF_t.1 h.1).2 hr
    unfold sizeW; rw [if_pos h.1, this]; simp
  · cases hr
theorem evZ_8 (n : Nat) : evZ 8 n = List.replicate ((8 - n % 8) % 8) 0 := by
  unfold evZ; congr 1
  have h1 : (n : Int).tmod 8 = (n : Int) % 8 := Int.tmod_eq_emod_of_nonneg (by omega)
  rw [h1, Int.tmod_eq_emod_of_nonneg (by omega)]; omega
theorem rightA_25 {R : Bool} {t a b c f : Int} {h : Bool} {x : Int} {v m d : List Int} (ht : t = 25) (hr : rightA R t a b c f h x v m d = true) : a = 0 ∧ b = 0 ∧ d = [] ∧ c = 32768 ∧ h = false ∧ settF f = true ∧ R = true := by
  unfold rightA at hr; rw [if_pos ht] at hr
  simp only [Bool.and_eq_true, decide_eq_true_eq, Bool.not_eq_true'] at hr
  obtain ⟨⟨⟨h1, h2⟩, h3⟩, ⟨⟨h4, h5⟩, h6⟩, h7⟩ := hr
  exact ⟨h1, h2, List.eq_nil_of_length_eq_zero h3, h4, h5, h6, h7⟩
theorem rightA_row {R : Bool} {t a b c f : Int} {h : Bool} {x : Int} {v m d : List Int} (ht : ¬ t = 25) (hr : rightA R t a b c f h x v m d = true) : rowK t = true ∧ sameO c f h x v m 0 0 false 0 [] [] = true ∧ askF t a = 0 ∧ putK (rowT t) (numsA t a b) = true ∧ (2 ≤ countW (rowT t) ∨ b = 0) ∧ (1 ≤ countW (rowT t) ∨ a = 0) ∧ ((t = 65535 ∧ (d.length : Int).tmod 8 = 0 ∧ (d.length : Int) ≤ 65520) ∨ (¬ t = 65535 ∧ d = [])) := by
  unfold rightA at hr; rw [if_neg ht] at hr
  simp only [Bool.and_eq_true, Bool.or_eq_true, decide_eq_true_eq] at hr
  obtain ⟨⟨⟨⟨⟨⟨h1, h2⟩, h3⟩, h4⟩, h5⟩, h6⟩, h7⟩ := hr
  refine ⟨h1, h2, h3, h4, h5, h6, ?_⟩
  split at h7
  · rename_i h8
    simp only [Bool.and_eq_true, decide_eq_true_eq] at h7; exact .inl ⟨h8, h7⟩
  · rename_i h8
    simp only [decide_eq_true_eq] at h7; exact .inr ⟨h8, List.eq_nil_of_length_eq_zero h7⟩
theorem sizeO_right {c f : Int} {h : Bool} {x : Int} {v m : List Int} (hr : rightO c f h x v m = true) : sizeO c f h x v m = (encO c f h x v m).length ∧ (encO c f h x v m).length ≤ 300 := by
  have h1 : sizeO c f h x v m = ((refB c f h x v m).length : Int) := by rw [size_law, if_pos hr]
  have hrn := right_nums hr
  have hl2 := bytesN_len (n := c) (w := 2) (by decide)
  have : ((refB c f h x v m).length : Int) = 4 + restO c v m := by
    rw [hrn.2.2.2.2.2.2.2]; unfold refB; simp only [List.length_append, List.length_cons, List.length_nil]; omega
  rw [enc_law hr]
  exact ⟨h1, by omega⟩
theorem type_le {t : Int} (h : rowK t = true ∨ t = 25) : 0 ≤ t ∧ t ≤ 65535 := by
  rcases h with h | h
  · have := rowK_t h; omega
  · omega
theorem sizeA_len {t a b c f : Int} {h : Bool} {x : Int} {v m d : List Int} (hr : rightA (rightO c f h x v m) t a b c f h x v m d = true) : sizeA (rightO c f h x v m) (sizeO c f h x v m) t a b c f h x v m d = 4 + ((bodyA t a b (encO c f h x v m) d).length : Int) ∧ (bodyA t a b (encO c f h x v m) d).length ≤ 65524 ∧ (4 + (bodyA t a b (encO c f h x v m) d).length) % 8 = 0 ∧ 8 ≤ 4 + (bodyA t a b (encO c f h x v m) d).length := by
  unfold sizeA bodyA
  rw [if_pos hr]
  by_cases ht : t = 25
  · rw [if_pos ht, if_pos ht]
    obtain ⟨_, _, _, _, _, _, hR⟩ := rightA_25 ht hr
    obtain ⟨e1, e2⟩ := sizeO_right hR
    have h4 : 4 ≤ (encO c f h x v m).length := by
      have : sizeO c f h x v m = 4 + restO c v m := by unfold sizeO; rw [if_pos hR]
      have hrest : 0 ≤ restO c v m := by unfold restO; split <;> omega
      omega
    rw [e1, List.length_append, List.length_replicate, Int.tdiv_eq_ediv_of_nonneg (by omega)]
    omega
  · rw [if_neg ht, if_neg ht]
    obtain ⟨k1, _, _, k4, _, _, k7⟩ := rightA_row ht hr
    have hs := putB_size k4
    have hz := siz_le t
    rw [List.length_append]
    have hq : sizeW (rowT t) = 4 ∨ sizeW (rowT t) = 12 := by
      have := rowK_t k1
      rcases this with rfl | (rfl | rfl | rfl) | (rfl | rfl) | (rfl | rfl | rfl | rfl) | (rfl | rfl | rfl | rfl | rfl | rfl) <;> decide
    rcases k7 with ⟨k8, k9, k10⟩ | ⟨_, rfl⟩
    · have : sizeW (rowT t) = 4 := by rw [k8]; decide
      rw [Int.tmod_eq_emod_of_nonneg (by omega)] at k9
      omega
    · simp only [List.length_nil]; omega
def ir_action_Encode : IR :=
(.seq
(.keep [0]
(.reg (oD 1 (.boxv (.t 0)) ::
oD 2 (.mov (.c (.imm (.int .u8) []))) ::
oD 3 (.mov (cI 0)) ::
[])))
(.seq
(.seq
(.reg (oD 9 (.load (some 10) (.t 1)) ::
oD 10 (.call false (.f 239) [(.t 9)]) ::
oD 11 (.un .not (.t 10)) ::
[]))
(.cond (.t 11)
(.seq
(.keep []
(.reg (oD 2 (.mov (.c (.imm (.int .u8) []))) ::
oD 3 (.mov (cI 10001)) ::
[])))
.ret)
.skip))
(.seq
(.keep [1]
(.reg (oD 12 (.load (some 10) (.t 1)) ::
oD 13 (.call false (.f 201) [(.t 12)]) ::
oD 14 (.call false (.f 38) [(.t 13)]) ::
oM 4 14 ::
[])))
(.seq
(.keep [1, 4]
(.regD ((oM 15 4, []) ::
(oD 16 (.sliceAll (.int .i64) 2 [(0, 1, (cI 2)), (1, 1, (cI 2))]), [0]) ::
(oD 17 (.fieldAddr 0 (.t 1)), [0, 0]) ::
(oL 18 17, [1, 0]) ::
(oD 19 (.conv .u64 (.t 18)), [2, 0]) ::
(oD 20 (.load (some 10) (.t 1)), [0, 0, 0, 0, 0]) ::
(oD 21 (.call false (.f 201) [(.t 20)]), [1, 0, 0, 0, 0]) ::
(oD 22 (.conv .u64 (.t 21)), [2, 0, 0, 0, 0]) ::
(oD 23 (.sliceAll (.int .u64) 2 [(0, 1, (.t 19)), (1, 1, (.t 22))]), [6, 0]) ::
(oD 24 (.call false (.f 112) [(.t 15), (.t 16), (.t 23)]), []) ::
[])))
(.seq
(.seq
(.keep [1, 4]
(.reg (oD 25 (.fieldAddr 0 (.t 1)) ::
oL 26 25 ::
oD 27 (.bin .eql (.t 26) (cI 25)) ::
[])))
(.cond (.t 27)
(.seq
(.keep [1, 4]
(.reg (oD 29 (.fieldAddr 3 (.t 1)) ::
oD 30 (.load (some 6) (.t 29)) ::
oD 31 (.call false (.f 207) [(.t 30)]) ::
oM 28 31 ::
oD 32 (.extract (.t 28) 0) ::
oD 33 (.extract (.t 28) 1) ::
oM 5 32 ::
oM 6 33 ::
[])))
(.seq
(.keep [4, 5]
(.reg (oM 34 4 ::
oM 35 5 ::
oD 36 (.call false (.f 39) [(.t 34), (.t 35)]) ::
[])))
(.seq
(.reg (oM 37 4 ::
oD 38 (.call false (.f 242) [(.t 37), (cI 8)]) ::
[]))
(.seq
(.keep [4]
(.reg (oM 39 4 ::
oD 40 (.call false (.f 41) [(.t 39)]) ::
oD 41 (.extract (.t 40) 0) ::
oD 42 (.extract (.t 40) 1) ::
oM 2 41 ::
oM 3 42 ::
[])))
.ret))))
.skip))
(.seq
(.keep [1, 4]
(.reg (oD 44 (.fieldAddr 0 (.t 1)) ::
oL 45 44 ::
oD 46 (.call false (.f 241) [(.t 45)]) ::
oM 43 46 ::
oD 47 (.extract (.t 43) 0) ::
oD 48 (.extract (.t 43) 1) ::
oM 7 47 ::
oM 8 48 ::
[])))
(.seq
(.keep [1, 4, 7]
(.regD ((oM 49 4, []) ::
(oM 50 7, [0]) ::
(oD 51 (.fieldAddr 1 (.t 1)), [0, 0]) ::
(oL 52 51, [1, 0]) ::
(oD 53 (.fieldAddr 2 (.t 1)), [0, 0, 0, 0]) ::
(oL 54 53, [1, 0, 0, 0]) ::
(oD 55 (.sliceAll (.int .u64) 2 [(0, 1, (.t 52)), (1, 1, (.t 54))]), [4, 0]) ::
(oM 56 7, [0, 0, 0, 0, 0, 0, 0]) ::
(oD 57 (.call false (.f 218) [(.t 56)]), [1, 0, 0, 0, 0, 0, 0]) ::
(oD 58 (.slice 1 (.t 55) none (some (.t 57)) none), [7, 0]) ::
(oD 59 (.call false (.f 112) [(.t 49), (.t 50), (.t 58)]), []) ::
[])))
(.seq
(.keep [1, 4]
(.reg (oM 60 4 ::
oD 61 (.fieldAddr 9 (.t 1)) ::
oL 62 61 ::
oD 63 (.call false (.f 39) [(.t 60), (.t 62)]) ::
[])))
(.seq
(.keep [4]
(.reg (oM 64 4 ::
oD 65 (.call false (.f 41) [(.t 64)]) ::
oD 66 (.extract (.t 65) 0) ::
oD 67 (.extract (.t 65) 1) ::
oM 2 66 ::
oM 3 67 ::
[])))
.ret)))))))))
def rd_action_Encode : List RD := [.tmp 2 true (some (.int .u8)), .tmp 3 true none]
theorem ok_action_Encode : fnOk Tryz.prog Tryz.f202 ir_action_Encode rd_action_Encode = true := by kernel_rfl
def S_action_Encode : List AV → List Obj → Option (Prop × AV)
  | [.agg [.int .i64 q, .int .u64 a, .int .u64 b, .int .i64 c, .int .i64 f, .bool h, .int .u64 x, .imm (.int .u8) v, .imm (.int .u8) m, .imm (.int .u8) d]], [] => some ((v.length ≤ 1000000 ∧ m.length ≤ 1000000, .tup [.imm (.int .u8) (if rightA (rightO c f h x v m) q a b c f h x v m d = true then encA q a b (encO c f h x v m) d else []), .int .i64 (if rightA (rightO c f h x v m) q a b c f h x v m d = true then 0 else 10001)]))
  | _, _ => none
theorem snd_action_Encode : SoundS Tryz.prog 202 (RoF S_action_Encode).sum := by
  refine ro_fn Tryz.func202 ok_action_Encode (env_cons (s := RoF S_action_Right) snd_action_Right (env_cons (s := RoF S_action_Size) snd_action_Size (env_cons (s := RwF S_buffer_New) snd_buffer_New (env_cons (s := RwF S_buffer_Buffer_Row) snd_buffer_Buffer_Row (env_cons (s := RoF S_oxm_Encode) snd_oxm_Encode (env_cons (s := RwF S_buffer_Buffer_Bytes) snd_buffer_Buffer_Bytes (env_cons (s := RwF S_buffer_Buffer_Even) snd_buffer_Buffer_Even (env_cons (s := RwF S_buffer_Buffer_Done) snd_buffer_Buffer_Done (env_cons (s := RoF S_action_rows) snd_action_rows (env_cons (s := RoF S_row_Count) snd_row_Count (env_nil _))))))))))) fun args objs p v e => ?_
  unfold S_action_Encode at e
  split at e
  · rename_i q a b c f h x v m d
    cases e
    refine ⟨rfl, fun hw ho hp => ?_⟩
    change List Int at v
    change List Int at m
    change List Int at d
    clear hw ho
    cases hr : rightA (rightO c f h x v m) q a b c f h x v m d with
    | false =>
      repeat' (intro t ht; first | (cases t <;> first | (cases ht; done) | ((try simp only [bn_s] at ht); (try simp only [nd_s] at ht); (try (exfalso; first | contradiction | omega)))) | (refine ht ?_ ?_ <;> clear ht) | (refine ht.1 ?_ ?_ <;> clear ht) | (refine ht ?_; clear ht))
      all_goals first
        | exact True.intro
        | exact hp
        | (exfalso; simp_all; done)
        | exact ⟨rfl, rfl⟩
        | trace_state
    | true =>
      obtain ⟨hS, hS1, hS2, hS3⟩ := sizeA_len hr
      obtain ⟨S, hSd⟩ : ∃ S, sizeA (rightO c f h x v m) (sizeO c f h x v m) q a b c f h x v m d = S := ⟨_, rfl⟩
      rw [hSd] at hS
      have hroom : roomF S = S := room_id (by omega) (by omega)
      have hfl : (encA q a b (encO c f h x v m) d).length = 4 + (bodyA q a b (encO c f h x v m) d).length := by
        unfold encA
        have g2 := bytesN_len (n := q) (w := 2) (by decide)
        have g3 := bytesN_len (n := (4 + (bodyA q a b (encO c f h x v m) d).length)) (w := 2) (by decide)
        simp only [List.length_append]; omega
      have hcn := cnt_le q
      by_cases h25 : q = 25
      · have ht := type_le (.inr h25)
        obtain ⟨r1, r2⟩ := row22 ht (show 0 ≤ S ∧ S ≤ 65535 by omega)
        have l2 := bytesN_len (n := q) (w := 2) (by decide)
        have l3 := bytesN_len (n := S) (w := 2) (by decide)
        obtain ⟨w1, w2⟩ := row_ok (l := []) (room := S) r2 (by rw [r1, List.length_append, List.length_nil]; omega)
        rw [List.nil_append, r1] at w1
        obtain ⟨_, _, _, _, _, _, hR⟩ := rightA_25 h25 hr
        obtain ⟨e1, e2⟩ := sizeO_right hR
        have hB : bodyA q a b (encO c f h x v m) d = encO c f h x v m ++ List.replicate ((8 - (4 + (encO c f h x v m).length) % 8) % 8) 0 := if_pos h25
        have hBl : (bodyA q a b (encO c f h x v m) d).length = (encO c f h x v m).length + (8 - (4 + (encO c f h x v m).length) % 8) % 8 := by rw [hB, List.length_append, List.length_replicate]
        obtain ⟨u1, u2⟩ := buf_ok (x := encO c f h x v m) (l := bytesN q 2 ++ bytesN S 2) (room := S) (by rw [List.length_append]; omega)
        have hlen : (bytesN q 2 ++ bytesN S 2 ++ encO c f h x v m).length = 4 + (encO c f h x v m).length := by simp only [List.length_append]; omega
        have hz := evZ_8 (4 + (encO c f h x v m).length)
        obtain ⟨y1, y2⟩ := buf_ok (x := List.replicate ((8 - (4 + (encO c f h x v m).length) % 8) % 8) (0 : Int)) (l := bytesN q 2 ++ bytesN S 2 ++ encO c f h x v m) (room := S) (by rw [hlen, List.length_replicate]; omega)
        have hfin : encA q a b (encO c f h x v m) d = bytesN q 2 ++ bytesN S 2 ++ encO c f h x v m ++ List.replicate ((8 - (4 + (encO c f h x v m).length) % 8) % 8) (0 : Int) := by
          unfold encA; rw [← hS, hB]; simp only [List.append_assoc]
        repeat' (intro t ht; first | (cases t <;> first | (cases ht; done) | ((try simp only [bn_s] at ht); (try simp only [nd_s] at ht); (try (exfalso; first | contradiction | omega)))) | (refine ht ?_ ?_ <;> clear ht) | (refine ht.1 ?_ ?_ <;> clear ht) | (refine ht ?_; clear ht))
        all_goals (try simp only [hSd] at *)
        all_goals (try simp only [hroom, w1, w2, hR, if_true, u1, u2, hlen, hz, y1, y2, ← hfin] at *)
        all_goals first
          | exact True.intro
          | exact hp
          | omega
          | ((try simp only [nd_s, bn_s, mm_s] at *); omega)
          | exact ⟨by omega, by omega, by simp only [List.length_nil]; omega⟩
          | exact ⟨by omega, by omega, by simp only [List.length_append]; omega, by omega⟩
          | exact ⟨by omega, by omega, by omega, by decide, by decide⟩
          | exact ⟨by omega, by decide⟩
          | (constructor <;> (simp only [List.length_append, List.length_replicate, List.length_nil]; omega))
          | (unfold doneL doneE doneB; exact ⟨rfl, by first | rfl | exact True.intro⟩)
          | (exfalso; simp_all; done)
          | trace_state
      · obtain ⟨k1, k2, k3, k4, k5, k6, k7⟩ := rightA_row h25 hr
        have ht := type_le (.inl k1)
        obtain ⟨r1, r2⟩ := row22 ht (show 0 ≤ S ∧ S ≤ 65535 by omega)
        have l2 := bytesN_len (n := q) (w := 2) (by decide)
        have l3 := bytesN_len (n := S) (w := 2) (by decide)
        obtain ⟨w1, w2⟩ := row_ok (l := []) (room := S) r2 (by rw [r1, List.length_append, List.length_nil]; omega)
        rw [List.nil_append, r1] at w1
        have hB : bodyA q a b (encO c f h x v m) d = putB (rowT q) (numsA q a b) ++ d := if_neg h25
        have hBl : (bodyA q a b (encO c f h x v m) d).length = (putB (rowT q) (numsA q a b)).length + d.length := by rw [hB, List.length_append]
        obtain ⟨u1, u2⟩ := row_ok (l := bytesN q 2 ++ bytesN S 2) (room := S) k4 (by rw [List.length_append]; omega)
        unfold numsA at u1 u2 k4 hB hBl
        obtain ⟨y1, y2⟩ := buf_ok (x := d) (l := bytesN q 2 ++ bytesN S 2 ++ putB (rowT q) ([a, b].take (countW (rowT q)).toNat)) (room := S) (by simp only [List.length_append]; omega)
        have hfin : encA q a b (encO c f h x v m) d = bytesN q 2 ++ bytesN S 2 ++ putB (rowT q) ([a, b].take (countW (rowT q)).toNat) ++ d := by
          unfold encA; rw [← hS, hB]; simp only [List.append_assoc]
        repeat' (intro t ht; first | (cases t <;> first | (cases ht; done) | ((try simp only [bn_s] at ht); (try simp only [nd_s] at ht); (try (exfalso; first | contradiction | omega)))) | (refine ht ?_ ?_ <;> clear ht) | (refine ht.1 ?_ ?_ <;> clear ht) | (refine ht ?_; clear ht))
        all_goals (try simp only [hSd] at *)
        all_goals (try simp only [hroom, w1, w2, u1, u2, y1, y2, ← hfin] at *)
        all_goals first
          | exact True.intro
          | exact hp
          | omega
          | ((try simp only [nd_s, bn_s, mm_s] at *); omega)
          | exact ⟨by omega, by omega, by simp only [List.length_nil]; omega⟩
          | exact ⟨by omega, by omega, by simp only [List.length_append]; omega⟩
          | exact ⟨by omega, by omega, by simp only [List.length_append]; omega, by omega⟩
          | exact ⟨by omega, by decide⟩
          | (constructor <;> (simp only [List.length_append, List.length_nil]; omega))
          | (unfold doneL doneE doneB; exact ⟨rfl, by first | rfl | exact True.intro⟩)
          | (exfalso; simp_all; done)
          | trace_state
  · cases e
end Go.Eng
namespace Go.Eng
open Go.Proofs
set_option linter.unusedVariables false
set_option linter.unusedSimpArgs false
set_option maxRecDepth 100000
set_option maxHeartbeats 1000000
structure okM (l : List OV) : Prop where
  a : allLen l
  n : l.length ≤ 100000
end Go.Eng
namespace Go.Eng
open Go.Proofs
set_option linter.unusedVariables false
set_option linter.unusedSimpArgs false
set_option maxRecDepth 100000
set_option maxHeartbeats 1000000
section
variable {I : Nat → Prop} {w : World} {mm : M}
end
end Go.Eng
namespace Go.Eng
open Go.Proofs
set_option linter.unusedVariables false
set_option linter.unusedSimpArgs false
set_option maxRecDepth 100000
set_option maxHeartbeats 1000000
theorem get22 (b : List Int) : getF [2, 2] b = if b.length < 4 then ([], 1) else ([numL (b.take 2), numL ((b.drop 2).take 2)], 0) := by
  have hr : rightF [2, 2] = true := by decide
  unfold getF
  rw [if_pos hr]
  have a2 : absI 2 = 2 := by decide
  have t2 : Int.toNat 2 = 2 := rfl
  have p2 : (0 : Int) < 2 := by decide
  simp only [getA, a2, t2, if_pos p2, List.length_drop]
  by_cases h : b.length < 4
  · rw [if_pos h]
    by_cases h2 : (b.length : Int) < 2
    · rw [if_pos h2]
    · rw [if_neg h2, if_pos (by omega)]
  · rw [if_neg h, if_neg (by omega), if_neg (by omega)]; rfl
def tT (b : List Int) : Int := numL (b.take 2)
def tN (b : List Int) : Int := numL ((b.drop 2).take 2)
def tlE (b : List Int) (least step bad : Int) : Int := if b.length < 4 then bad else if tN b < least ∨ ¬ (tN b).tmod step = 0 then bad else if (b.length : Int) < tN b then bad else 0
def tlI (b : List Int) (least step bad x : Int) : Int := if tlE b least step bad = 0 then x else 0
def tlR (b : List Int) (least step bad : Int) : List Int := if tlE b least step bad = 0 then (b.take (tN b).toNat).drop 4 else []
theorem num2_le {b : List Int} {a : Nat} (hb : ∀ x ∈ b, 0 ≤ x ∧ x ≤ 255) : 0 ≤ numL ((b.drop a).take 2) ∧ numL ((b.drop a).take 2) ≤ 65535 := by
  have h := numL_le ((b.drop a).take 2) fun x hx => hb x (List.mem_of_mem_drop (List.mem_of_mem_take hx))
  have hl : ((b.drop a).take 2).length ≤ 2 := by rw [List.length_take]; omega
  have hp : ∀ k ≤ 2, (256 : Int) ^ k ≤ 65536 := by decide
  have := hp _ hl
  omega
def bd (b : List Int) : List Int := (b.take (tN b).toNat).drop 4
theorem bd_le {b : List Int} (hb : ∀ x ∈ b, 0 ≤ x ∧ x ≤ 255) : (bd b).length ≤ 65535 := by
  have := num2_le (a := 2) hb
  unfold bd tN; rw [List.length_drop, List.length_take]; omega
theorem cur22 {b : List Int} {sh od : Int} : curL [2, 2] b 0 0 = (if b.length < 4 then [] else [tT b, tN b]) ∧ curP [2, 2] b 0 0 = (if b.length < 4 then 0 else 4) ∧ curE [2, 2] b 0 sh od 0 = (if b.length < 4 then sh else 0) := by
  have e : getF [2, 2] (b.drop (0 : Int).toNat) = if b.length < 4 then ([], 1) else ([tT b, tN b], 0) := by
    rw [show (0 : Int).toNat = 0 from rfl, List.drop_zero, get22]; rfl
  have es : sizeW [2, 2] = 4 := by decide
  unfold curL curP curE getL getK
  rw [e, es]
  by_cases h : b.length < 4
  · simp only [if_pos h]; exact ⟨rfl, rfl, rfl⟩
  · simp only [if_neg h]; exact ⟨rfl, rfl, rfl⟩
def ir_tlv_Shape_may : IR :=
(.seq
(.keep [0]
(.reg (oD 1 (.boxv (.t 0)) ::
oD 2 (.mov cF) ::
[])))
(.seq
(.keep [1]
(.reg (oD 3 (.fieldAddr 0 (.t 1)) ::
oL 4 3 ::
oD 5 (.bin .geq (.t 4) (cI 4)) ::
oM 6 5 ::
oT 6 7 (.fieldAddr 0 (.t 1)) ::
oT 6 8 (.load none (.t 7)) ::
oT 6 9 (.bin .leq (.t 8) (cI 60000)) ::
oD 10 (.pick (.t 6) (.t 9) cF) ::
oM 11 10 ::
oT 11 12 (.fieldAddr 1 (.t 1)) ::
oT 11 13 (.load none (.t 12)) ::
oT 11 14 (.bin .geq (.t 13) (cI 1)) ::
oD 15 (.pick (.t 11) (.t 14) cF) ::
oM 16 15 ::
oT 16 17 (.fieldAddr 1 (.t 1)) ::
oT 16 18 (.load none (.t 17)) ::
oT 16 19 (.bin .leq (.t 18) (cI 64)) ::
oD 20 (.pick (.t 16) (.t 19) cF) ::
oM 21 20 ::
oT 21 22 (.fieldAddr 3 (.t 1)) ::
oT 21 23 (.load none (.t 22)) ::
oT 21 24 (.bin .neq (.t 23) (cI 0)) ::
oD 25 (.pick (.t 21) (.t 24) cF) ::
oM 26 25 ::
oT 26 27 (.fieldAddr 4 (.t 1)) ::
oT 26 28 (.load none (.t 27)) ::
oT 26 29 (.bin .neq (.t 28) (cI 0)) ::
oD 30 (.pick (.t 26) (.t 29) cF) ::
oM 2 30 ::
[])))
.ret))
def rd_tlv_Shape_may : List RD := [.tmp 2 true none]
theorem ok_tlv_Shape_may : fnOk Tryz.prog Tryz.f296 ir_tlv_Shape_may rd_tlv_Shape_may = true := by kernel_rfl
def S_tlv_Shape_may : List AV → List Obj → Option (Prop × AV)
  | [.agg [.int .i64 least, .int .i64 step, .bool pad, .int .i64 bad, .int .i64 odd]], [] => some ((4 ≤ least ∧ least ≤ 60000 ∧ 1 ≤ step ∧ step ≤ 64 ∧ bad ≠ 0 ∧ odd ≠ 0, .bool true))
  | _, _ => none
theorem snd_tlv_Shape_may : SoundS Tryz.prog 296 (RoF S_tlv_Shape_may).sum := by
  refine ro_fn Tryz.func296 ok_tlv_Shape_may (env_nil _) fun args objs p v e => ?_
  unfold S_tlv_Shape_may at e
  split at e
  · rename_i least step pad bad odd
    cases e
    refine ⟨rfl, fun hw ho hp => ?_⟩
    clear hw ho
    obtain ⟨h1, h2, h3, h4, h5, h6⟩ := hp
    repeat' (intro t ht; first | (cases t <;> first | (cases ht; done) | ((try simp only [bn_s] at ht); (try simp only [nd_s] at ht); (try (exfalso; first | contradiction | omega)))) | (refine ht ?_ ?_ <;> clear ht) | (refine ht.1 ?_ ?_ <;> clear ht) | (refine ht ?_; clear ht))
    all_goals first
      | exact True.intro
      | exact ⟨rfl, rfl⟩
      | (exfalso; omega)
      | (refine ⟨congrArg AV.bool ?_, rfl⟩; simp; omega)
      | trace_state
  · cases e
def ir_tlv_Shape_fits : IR :=
(.seq
(.keep [0, 1]
(.reg (oD 2 (.boxv (.t 0)) ::
oD 4 (.mov cF) ::
[])))
(.seq
(.keep [1, 2]
(.reg (oM 5 1 ::
oD 6 (.fieldAddr 0 (.t 2)) ::
oL 7 6 ::
oD 8 (.bin .geq (.t 5) (.t 7)) ::
oM 9 8 ::
oT 9 10 (.fieldAddr 2 (.t 2)) ::
oT 9 11 (.load none (.t 10)) ::
oT 9 12 (.mov (.t 11)) ::
oF 12 13 (.mov (.t 1)) ::
oF 12 14 (.fieldAddr 1 (.t 2)) ::
oF 12 15 (.load none (.t 14)) ::
oF 12 16 (.bin .rem (.t 13) (.t 15)) ::
oF 12 17 (.bin .eql (.t 16) (cI 0)) ::
oT 9 18 (.pick (.t 12) cT (.t 17)) ::
oD 19 (.pick (.t 9) (.t 18) cF) ::
oM 4 19 ::
[])))
.ret))
def rd_tlv_Shape_fits : List RD := [.tmp 4 true none]
theorem ok_tlv_Shape_fits : fnOk Tryz.prog Tryz.f297 ir_tlv_Shape_fits rd_tlv_Shape_fits = true := by kernel_rfl
def S_tlv_Shape_fits : List AV → List Obj → Option (Prop × AV)
  | [.agg [.int .i64 least, .int .i64 step, .bool pad, .int .i64 bad, .int .i64 odd], .int .i64 n], [] => some ((pad = false ∧ 1 ≤ step, .bool (decide (least ≤ n) && decide (n.tmod step = 0))))
  | _, _ => none
theorem snd_tlv_Shape_fits : SoundS Tryz.prog 297 (RoF S_tlv_Shape_fits).sum := by
  refine ro_fn Tryz.func297 ok_tlv_Shape_fits (env_nil _) fun args objs p v e => ?_
  unfold S_tlv_Shape_fits at e
  split at e
  · rename_i least step pad bad odd n
    cases e
    refine ⟨rfl, fun hw ho hp => ?_⟩
    clear hw ho
    obtain ⟨rfl, h1⟩ := hp
    repeat' (intro t ht; first | (cases t <;> first | (cases ht; done) | ((try simp only [bn_s] at ht); (try simp only [nd_s] at ht); (try (exfalso; first | contradiction | omega)))) | (refine ht ?_ ?_ <;> clear ht) | (refine ht.1 ?_ ?_ <;> clear ht) | (refine ht ?_; clear ht))
    all_goals first
      | exact True.intro
      | omega
      | (refine ⟨congrArg AV.bool ?_, rfl⟩; simp_all; done)
      | (refine ⟨congrArg AV.bool ?_, rfl⟩; rw [decide_eq_false (by omega)]; rfl)
      | trace_state
  · cases e
def ir_tlv_Shape_zeros : IR :=
(.seq
(.keep [0, 1]
(.reg (oD 2 (.boxv (.t 0)) ::
oD 4 (.mov (cI 0)) ::
[])))
(.seq
(.seq
(.reg (oD 5 (.fieldAddr 2 (.t 2)) ::
oL 6 5 ::
oD 7 (.un .not (.t 6)) ::
[]))
(.cond (.t 7)
(.seq
(.reg (oD 4 (.mov (cI 0)) ::
[]))
.ret)
.skip))
(.seq
(.keep [1, 2]
(.regD ((oD 8 (.fieldAddr 1 (.t 2)), []) ::
(oL 9 8, []) ::
(oM 10 1, [0, 0]) ::
(oD 11 (.fieldAddr 1 (.t 2)), [0, 0, 0]) ::
(oL 12 11, [1, 0, 0]) ::
(oD 13 (.bin .rem (.t 10) (.t 12)), [3, 0]) ::
(oD 14 (.bin .sub (.t 9) (.t 13)), []) ::
(oD 15 (.fieldAddr 1 (.t 2)), [0, 0, 0, 0, 0, 0, 0]) ::
(oL 16 15, [1, 0, 0, 0, 0, 0, 0]) ::
(oD 17 (.bin .rem (.t 14) (.t 16)), []) ::
(oM 4 17, []) ::
[])))
.ret)))
def rd_tlv_Shape_zeros : List RD := [.tmp 4 true none]
theorem ok_tlv_Shape_zeros : fnOk Tryz.prog Tryz.f298 ir_tlv_Shape_zeros rd_tlv_Shape_zeros = true := by kernel_rfl
def S_tlv_Shape_zeros : List AV → List Obj → Option (Prop × AV)
  | [.agg [.int .i64 least, .int .i64 step, .bool pad, .int .i64 bad, .int .i64 odd], .int .i64 n], [] => some ((pad = false, .int .i64 0))
  | _, _ => none
theorem snd_tlv_Shape_zeros : SoundS Tryz.prog 298 (RoF S_tlv_Shape_zeros).sum := by
  refine ro_fn Tryz.func298 ok_tlv_Shape_zeros (env_nil _) fun args objs p v e => ?_
  unfold S_tlv_Shape_zeros at e
  split at e
  · rename_i least step pad bad odd n
    cases e
    refine ⟨rfl, fun hw ho hp => ?_⟩
    clear hw ho
    subst hp
    repeat' (intro t ht; first | (cases t <;> first | (cases ht; done) | ((try simp only [bn_s] at ht); (try simp only [nd_s] at ht); (try (exfalso; first | contradiction | omega)))) | (refine ht ?_ ?_ <;> clear ht) | (refine ht.1 ?_ ?_ <;> clear ht) | (refine ht ?_; clear ht))
    all_goals first
      | exact True.intro
      | exact ⟨rfl, rfl⟩
      | trace_state
  · cases e
def ir_tlv_One : IR :=
(.seq
(.keep [0, 1]
(.reg (oD 2 (.boxv (.t 0)) ::
oD 4 (.box [.int .i64 0, .imm (.int .u8) []]) ::
oD 5 (.mov (cI 0)) ::
oD 6 (.mov (cI 0)) ::
[])))
(.seq
(.seq
(.reg (oD 13 (.load (some 5) (.t 2)) ::
oD 14 (.call false (.f 296) [(.t 13)]) ::
oD 15 (.un .not (.t 14)) ::
[]))
(.cond (.t 15)
(.seq
(.keep [4]
(.reg (oD 16 (.build [.int .i64 0, .imm (.int .u8) []] []) ::
oN (.store 2 (.t 4) (.t 16)) ::
oD 5 (.mov (cI 0)) ::
oD 6 (.mov (cI 10001)) ::
[])))
.ret)
.skip))
(.seq
(.keep [1, 2, 4]
(.reg (oM 17 1 ::
oD 18 (.fieldAddr 3 (.t 2)) ::
oL 19 18 ::
oD 20 (.fieldAddr 4 (.t 2)) ::
oL 21 20 ::
oD 22 (.call false (.f 28) [(.t 17), (.t 19), (.t 21)]) ::
oM 7 22 ::
[])))
(.seq
(.keep [1, 2, 4, 7]
(.reg (oM 23 7 ::
oD 24 (.sliceAll (.int .i64) 2 [(0, 1, (cI 2)), (1, 1, (cI 2))]) ::
oD 25 (.call false (.f 131) [(.t 23), (.t 24)]) ::
oM 8 25 ::
[])))
(.seq
(.seq
(.reg (oM 26 8 ::
oD 27 (.len (.t 26)) ::
oD 28 (.bin .eql (.t 27) (cI 0)) ::
[]))
(.cond (.t 28)
(.seq
(.keep [4, 7]
(.reg (oD 29 (.build [.int .i64 0, .imm (.int .u8) []] []) ::
oM 30 7 ::
oD 31 (.call false (.f 31) [(.t 30)]) ::
oN (.store 2 (.t 4) (.t 29)) ::
oD 5 (.mov (cI 0)) ::
oM 6 31 ::
[])))
.ret)
.skip))
(.seq
(.keep [1, 2, 4, 7, 8]
(.reg (oM 32 8 ::
oD 33 (.indexSl 1 (.t 32) (cI 1)) ::
oL 34 33 ::
oD 35 (.conv .i64 (.t 34)) ::
oM 9 35 ::
[])))
(.seq
(.seq
(.keep [1, 2, 4, 7, 8, 9]
(.reg (oD 36 (.load (some 5) (.t 2)) ::
oM 37 9 ::
oD 38 (.call false (.f 297) [(.t 36), (.t 37)]) ::
oD 39 (.un .not (.t 38)) ::
oM 40 39 ::
oF 40 41 (.mov (.t 9)) ::
oF 40 42 (.load (some 5) (.t 2)) ::
oF 40 43 (.mov (.t 9)) ::
oF 40 44 (.call false (.f 298) [(.t 42), (.t 43)]) ::
oF 40 45 (.bin .add (.t 41) (.t 44)) ::
oF 40 46 (.mov (.t 1)) ::
oF 40 47 (.len (.t 46)) ::
oF 40 48 (.bin .gtr (.t 45) (.t 47)) ::
oD 49 (.pick (.t 40) cT (.t 48)) ::
[])))
(.cond (.t 49)
(.seq
(.keep [2, 4]
(.regD ((oD 50 (.build [.int .i64 0, .imm (.int .u8) []] []), []) ::
(oD 51 (.fieldAddr 3 (.t 2)), [0]) ::
(oL 52 51, [1]) ::
(oN (.store 2 (.t 4) (.t 50)), [0, 0]) ::
(oD 5 (.mov (cI 0)), [1, 0]) ::
(oM 6 52, []) ::
[])))
.ret)
.skip))
(.seq
(.keep [2, 4, 7, 8, 9]
(.regD ((oM 53 8, []) ::
(oD 54 (.indexSl 1 (.t 53) (cI 0)), []) ::
(oL 55 54, []) ::
(oD 56 (.conv .i64 (.t 55)), []) ::
(oM 57 7, [0, 0, 0, 0]) ::
(oM 58 9, [0, 0, 0, 0, 0]) ::
(oD 59 (.bin .sub (.t 58) (cI 4)), [1, 0, 0, 0, 0]) ::
(oD 60 (.call false (.f 29) [(.t 57), (.t 59)]), [3, 0, 0, 0]) ::
(oD 61 (.buildAll 2 [(0, 1, (.t 56)), (1, 1, (.t 60))]), []) ::
(oD 10 (.box [.int .i64 0, .imm (.int .u8) []]), [0, 0, 0, 0, 0, 0, 0, 0, 0]) ::
(oN (.store 2 (.t 10) (.t 61)), []) ::
[])))
(.seq
(.seq
(.keep [2, 4, 7, 9, 10]
(.reg (oD 62 (.load (some 5) (.t 2)) ::
oM 63 9 ::
oD 64 (.call false (.f 298) [(.t 62), (.t 63)]) ::
oM 11 64 ::
[])))
(.seq
(.reg (oM 65 11 ::
oD 66 (.bin .gtr (.t 65) (cI 0)) ::
[]))
(.cond (.t 66)
(.keep [4, 7, 10, 11]
(.reg (oM 67 7 ::
oM 68 11 ::
oD 69 (.un .neg (.t 68)) ::
oD 70 (.sliceAll (.int .i64) 1 [(0, 1, (.t 69))]) ::
oD 71 (.call false (.f 131) [(.t 67), (.t 70)]) ::
[])))
.skip)))
(.seq
(.seq
(.keep [4, 7, 10]
(.reg (oM 72 7 ::
oD 73 (.call false (.f 31) [(.t 72)]) ::
oM 12 73 ::
[])))
(.seq
(.reg (oM 74 12 ::
oD 75 (.bin .neq (.t 74) (cI 0)) ::
[]))
(.cond (.t 75)
(.seq
(.reg (oD 76 (.build [.int .i64 0, .imm (.int .u8) []] []) ::
oM 77 12 ::
oN (.store 2 (.t 4) (.t 76)) ::
oD 5 (.mov (cI 0)) ::
oM 6 77 ::
[]))
.ret)
.skip)))
(.seq
(.keep [4, 7, 10]
(.regD ((oD 78 (.load (some 2) (.t 10)), []) ::
(oM 79 7, [0]) ::
(oD 80 (.call false (.f 255) [(.t 79)]), [1]) ::
(oN (.store 2 (.t 4) (.t 78)), []) ::
(oM 5 80, []) ::
(oD 6 (.mov (cI 0)), []) ::
[])))
.ret)))))))))))
def rd_tlv_One : List RD := [.cell 4 (some 2) true [], .tmp 5 true none, .tmp 6 true none]
theorem ok_tlv_One : fnOk Tryz.prog Tryz.f283 ir_tlv_One rd_tlv_One = true := by kernel_rfl
def S_tlv_One : List AV → List Obj → Option (Prop × AV)
  | [.agg [.int .i64 least, .int .i64 step, .bool pad, .int .i64 bad, .int .i64 odd], .imm (.int .u8) b], [] => some ((pad = false ∧ (4 ≤ least ∧ least ≤ 60000 ∧ 1 ≤ step ∧ step ≤ 64 ∧ bad ≠ 0 ∧ odd ≠ 0) ∧ b.length ≤ 140737488355328, .tup [.agg [.int .i64 (tlI b least step bad (tT b)), .imm (.int .u8) (tlR b least step bad)], .int .i64 (tlI b least step bad (tN b)), .int .i64 (tlE b least step bad)]))
  | _, _ => none
theorem snd_tlv_One : SoundS Tryz.prog 283 (RoF S_tlv_One).sum := by
  refine ro_fn Tryz.func283 ok_tlv_One (env_cons (s := RoF S_tlv_Shape_may) snd_tlv_Shape_may (env_cons (s := RwF S_cursor_New) snd_cursor_New (env_cons (s := RwF S_cursor_Cursor_Row) snd_cursor_Cursor_Row (env_cons (s := RoF S_cursor_Cursor_Err) snd_cursor_Cursor_Err (env_cons (s := RoF S_tlv_Shape_fits) snd_tlv_Shape_fits (env_cons (s := RoF S_tlv_Shape_zeros) snd_tlv_Shape_zeros (env_cons (s := RwF S_cursor_Cursor_Bytes) snd_cursor_Cursor_Bytes (env_cons (s := RoF S_cursor_Cursor_At) snd_cursor_Cursor_At (env_nil _))))))))) fun args objs p v e => ?_
  unfold S_tlv_One at e
  split at e
  · rename_i least step pad bad odd b
    cases e
    refine ⟨rfl, fun hw ho hp => ?_⟩
    change List Int at b
    have hb : ∀ x ∈ (b : List Int), (0 : Int) ≤ x ∧ x ≤ 255 := fun x hx => (hw _ (by simp : AV.imm (.int .u8) b ∈ _)).1 x hx
    clear hw ho
    obtain ⟨rfl, hs, hl⟩ := hp
    have hs' := hs
    obtain ⟨h1, h2, h3, h4', h5, h6⟩ := hs'
    have hT : 0 ≤ tT b ∧ tT b ≤ 65535 := num2_le (a := 0) hb
    have hN : 0 ≤ tN b ∧ tN b ≤ 65535 := num2_le (a := 2) hb
    obtain ⟨c1, c2, c3⟩ := cur22 (b := b) (sh := bad) (od := odd)
    have hm := tmod_bd (a := tN b) (s := step) hN.1 h3
    by_cases h4 : b.length < 4
    · rw [if_pos h4] at c1 c2 c3
      have hE : tlE b least step bad = bad := if_pos h4
      repeat' (intro t ht; first | (cases t <;> first | (cases ht; done) | ((try simp only [bn_s] at ht); (try simp only [nd_s] at ht); (try (exfalso; first | contradiction | omega)))) | (refine ht ?_ ?_ <;> clear ht) | (refine ht.1 ?_ ?_ <;> clear ht) | (refine ht ?_; clear ht))
      all_goals (try simp only [c1, c2, c3, List.length_nil, not_true_eq_false] at *)
      all_goals first
        | exact True.intro
        | exact ⟨rfl, hs⟩
        | exact hs
        | omega
        | exact ⟨by omega, by omega, by omega⟩
        | (unfold tlI tlR; simp only [hE, if_neg h5]; first | done | exact ⟨rfl, by first | rfl | exact True.intro⟩ | exact ⟨trivial, trivial⟩)
        | (exfalso; omega)
        | trace_state
    · rw [if_neg h4] at c1 c2 c3
      have g0 : ∀ d : Int, [tT b, tN b].getD (Int.toNat 0) d = tT b := fun _ => rfl
      have g1 : ∀ d : Int, [tT b, tN b].getD (Int.toNat 1) d = tN b := fun _ => rfl
      have hok : 4 ≤ tN b → tN b ≤ b.length → takeE (tN b - 4) b 4 bad 0 = 0 ∧ takeL (tN b - 4) b 4 bad 0 = (b.take (tN b).toNat).drop 4 ∧ takeP (tN b - 4) b 4 bad 0 = tN b := fun q1 q2 => by
        have e : takeE (tN b - 4) b 4 bad 0 = 0 := by unfold takeE; rw [if_neg (by omega), if_neg (by omega)]
        refine ⟨e, ?_, ?_⟩
        · unfold takeL; rw [if_pos e]; congr 2; omega
        · unfold takeP; rw [if_pos e]; omega
      repeat' (intro t ht; first | (cases t <;> first | (cases ht; done) | ((try simp only [bn_s] at ht); (try simp only [nd_s] at ht); (try (exfalso; first | contradiction | omega)))) | (refine ht ?_ ?_ <;> clear ht) | (refine ht.1 ?_ ?_ <;> clear ht) | (refine ht ?_; clear ht))
      all_goals (try simp only [c1, c2, c3, g0, g1, List.length_cons, List.length_nil, not_true_eq_false] at *)
      all_goals first
        | exact True.intro
        | exact ⟨True.intro, h3⟩
        | exact hs
        | omega
        | exact ⟨by omega, by omega, by omega⟩
        | exact ⟨by omega, by omega, by omega, h5⟩
        | ((try simp only [nd_s, bn_s, mm_s] at *); omega)
        | (exfalso; omega)
        | (have hE : tlE b least step bad = bad := by
             unfold tlE; rw [if_neg h4]
             first
               | exact if_pos (by omega)
               | (by_cases hq : tN b < least ∨ ¬ (tN b).tmod step = 0
                  · exact if_pos hq
                  · rw [if_neg hq]; exact if_pos (by omega))
           unfold tlI tlR; simp only [hE, if_neg h5]; first | done | exact ⟨rfl, by first | rfl | exact True.intro⟩ | exact ⟨trivial, trivial⟩)
        | (obtain ⟨q1, q2, q3⟩ := hok (by omega) (by omega)
           first
             | exact absurd q1 (by assumption)
             | (have hE : tlE b least step bad = 0 := by
                  unfold tlE; rw [if_neg h4, if_neg (by omega)]; exact if_neg (by omega)
                unfold tlI tlR; simp only [hE, q2, q3, if_true]; first | done | exact ⟨rfl, by first | rfl | exact True.intro⟩ | exact ⟨trivial, trivial⟩))
        | trace_state
  · cases e
end Go.Eng
namespace Go.Eng
open Go.Proofs
set_option linter.unusedVariables false
set_option linter.unusedSimpArgs false
set_option maxRecDepth 100000
set_option maxHeartbeats 1000000
def setE (b : List Int) : Int := if decE b = 0 then (if ¬ (decC b = 32768 ∧ settF (decF b) = true) then 526 else if decH b = true then 528 else if decN b + 8 ≤ b.length then 527 else if zeroL (b.drop (decN b).toNat) = true then 0 else 528) else if decE b = 1026 then 527 else if decE b = 1031 then 526 else 528
def plE (t : Int) (y : List Int) : Int := if ¬ t = 65535 ∧ ¬ (y.length : Int) = sizeW (rowT t) then 514 else if getK (rowT t) y = 1 then 514 else if getK (rowT t) y = 2 then 518 else askF t ((getL (rowT t) y).getD 0 0)
def acE (b : List Int) : Int := if ¬ tlE b 8 8 514 = 0 then tlE b 8 8 514 else if tT b = 25 then setE (bd b) else if rowK (tT b) = true then plE (tT b) (bd b) else 513
def acI (b : List Int) (x : Int) : Int := if acE b = 0 then x else 0
def acA (b : List Int) (k : Nat) : Int := acI b (if tT b = 25 then 0 else (getL (rowT (tT b)) (bd b)).getD k 0)
def acS (b : List Int) (x : Int) : Int := acI b (if tT b = 25 then x else 0)
def acH (b : List Int) : Bool := decide (acE b = 0) && decide (tT b = 25) && decH (bd b)
def acV (b l : List Int) : List Int := if acE b = 0 then (if tT b = 25 then l else []) else []
def acD (b : List Int) : List Int := if acE b = 0 then (if tT b = 25 then [] else (bd b).drop (sizeW (rowT (tT b))).toNat) else []
theorem getA_len2 : ∀ (w b o : List Int), (getA w b o).2 = 0 ∨ (getA w b o).2 = 1 ∨ (getA w b o).2 = 2
  | [], b, o => .inl rfl
  | n :: r, b, o => by
    simp only [getA]
    split
    · exact .inr (.inl rfl)
    · split
      · exact getA_len2 r _ _
      · split
        · exact getA_len2 r _ _
        · exact .inr (.inr rfl)
theorem getK_of (w b : List Int) : getK w b = 0 ∨ getK w b = 1 ∨ getK w b = 2 := by
  unfold getK getF; split
  · exact getA_len2 w b []
  · exact .inr (.inr rfl)
end Go.Eng
