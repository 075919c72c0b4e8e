/- Contracts of functions of the given program, told by plain Lean functions. No condition. -/
import Derived.Test.YtmbcgankddgpjaaDoorProg
import Derived.Test.YtmbcgankddgpjaaDoorEArg
import Derived.KernelRfl
namespace Go.Eng
open Go.Proofs
set_option linter.unusedVariables false
set_option linter.unusedSimpArgs false
set_option maxRecDepth 100000
set_option maxHeartbeats 1000000
def fIs (n : Int) : Bool := decide (0 ≤ n) && decide (n < 40)
theorem fIs_t {n : Int} : fIs n = true ↔ 0 ≤ n ∧ n < 40 := by unfold fIs; simp
theorem fIs_f {n : Int} : fIs n = false ↔ ¬ (0 ≤ n ∧ n < 40) := by rw [← fIs_t]; simp
def ir_field_is : IR :=
(.seq
(.keep [0]
(.reg (oD 2 (.mov cF) ::
[])))
(.seq
(.keep [0]
(.reg (oM 3 0 ::
oD 4 (.bin .geq (.t 3) (cI 0)) ::
oM 5 4 ::
oT 5 6 (.mov (.t 0)) ::
oT 5 7 (.bin .lss (.t 6) (cI 40)) ::
oD 8 (.pick (.t 5) (.t 7) cF) ::
oM 2 8 ::
[])))
.ret))
def rd_field_is : List RD := [.tmp 2 true none]
theorem ok_field_is : fnOk Tryd.prog Tryd.f111 ir_field_is rd_field_is = true := by kernel_rfl
def S_field_is : List AV → List Obj → Option (Prop × AV)
  | [.int .i64 n], [] => some ((True, .bool (fIs n)))
  | _, _ => none
theorem snd_field_is : SoundS Tryd.prog 111 (RoF S_field_is).sum := by
  refine ro_fn Tryd.func111 ok_field_is (env_nil _) fun args objs p v e => ?_
  unfold S_field_is at e
  split at e
  · rename_i n
    cases e
    refine ⟨rfl, fun hw ho hp => ?_⟩
    repeat' (intro t ht; first | (cases t <;> first | (cases ht; done) | ((try simp only [bn_s] at ht); (try simp only [nd_s] at ht))) | (refine ht ?_ ?_ <;> clear ht) | (refine ht.1 ?_ ?_ <;> clear ht) | (refine ht ?_; clear ht))
    all_goals refine ⟨?_, rfl⟩
    all_goals unfold fIs
    all_goals first | (congr 1; simp_all; done) | (congr 1; simp_all; omega)
  · cases e
def bitsL : List Int := [32, 32, 64, 48, 48, 16, 13, 3, 6, 2, 8, 32, 32, 16, 16, 16, 16, 16, 16, 8, 8, 16, 32, 32, 48, 48, 128, 128, 20, 8, 8, 128, 48, 48, 20, 3, 1, 24, 64, 9]
def ir_field_bits : IR :=
(.seq
(.keep [0]
(.reg (oD 2 (.mov (cI 0)) ::
[])))
(.seq
(.reg (oD 4 (.buildAll 40 [(0, 1, (cI 32)), (1, 1, (cI 32)), (2, 1, (cI 64)), (3, 1, (cI 48)), (4, 1, (cI 48)), (5, 1, (cI 16)), (6, 1, (cI 13)), (7, 1, (cI 3)), (8, 1, (cI 6)), (9, 1, (cI 2)), (10, 1, (cI 8)), (11, 1, (cI 32)), (12, 1, (cI 32)), (13, 1, (cI 16)), (14, 1, (cI 16)), (15, 1, (cI 16)), (16, 1, (cI 16)), (17, 1, (cI 16)), (18, 1, (cI 16)), (19, 1, (cI 8)), (20, 1, (cI 8)), (21, 1, (cI 16)), (22, 1, (cI 32)), (23, 1, (cI 32)), (24, 1, (cI 48)), (25, 1, (cI 48)), (26, 1, (cI 128)), (27, 1, (cI 128)), (28, 1, (cI 20)), (29, 1, (cI 8)), (30, 1, (cI 8)), (31, 1, (cI 128)), (32, 1, (cI 48)), (33, 1, (cI 48)), (34, 1, (cI 20)), (35, 1, (cI 3)), (36, 1, (cI 1)), (37, 1, (cI 24)), (38, 1, (cI 64)), (39, 1, (cI 9))]) ::
oD 3 (.box [.int .i64 0, .int .i64 0, .int .i64 0, .int .i64 0, .int .i64 0, .int .i64 0, .int .i64 0, .int .i64 0, .int .i64 0, .int .i64 0, .int .i64 0, .int .i64 0, .int .i64 0, .int .i64 0, .int .i64 0, .int .i64 0, .int .i64 0, .int .i64 0, .int .i64 0, .int .i64 0, .int .i64 0, .int .i64 0, .int .i64 0, .int .i64 0, .int .i64 0, .int .i64 0, .int .i64 0, .int .i64 0, .int .i64 0, .int .i64 0, .int .i64 0, .int .i64 0, .int .i64 0, .int .i64 0, .int .i64 0, .int .i64 0, .int .i64 0, .int .i64 0, .int .i64 0, .int .i64 0]) ::
oN (.store 40 (.t 3) (.t 4)) ::
[]))
(.seq
(.reg (oM 5 0 ::
oD 6 (.indexArr 1 40 (.t 3) (.t 5)) ::
oD 7 (.loadI .i64 (.t 6)) ::
oM 2 7 ::
[]))
.ret)))
def rd_field_bits : List RD := [.tmp 2 true none]
theorem ok_field_bits : fnOk Tryd.prog Tryd.f112 ir_field_bits rd_field_bits = true := by kernel_rfl
def S_field_bits : List AV → List Obj → Option (Prop × AV)
  | [.int .i64 n], [] => some (0 ≤ n ∧ n < 40, .int .i64 (bitsL.getD n.toNat 0))
  | _, _ => none
theorem snd_field_bits : SoundS Tryd.prog 112 (RoF S_field_bits).sum := by
  refine ro_fn Tryd.func112 ok_field_bits (env_nil _) fun args objs p v e => ?_
  unfold S_field_bits at e
  split at e
  · rename_i n
    cases e
    refine ⟨rfl, fun hw _ hp => ?_⟩
    repeat' (intro t ht; first | (cases t <;> first | (cases ht; done) | ((try simp only [bn_s] at ht); (try simp only [nd_s] at ht))) | (refine ht ?_ ?_ <;> clear ht) | (refine ht.1 ?_ ?_ <;> clear ht) | (refine ht ?_; clear ht))
    · exact hp
    · show 0 + n.toNat * 1 < 40; omega
    · exact ⟨by simp [bitsL], rfl⟩
  · cases e
theorem bits_le : ∀ k < 40, 1 ≤ bitsL.getD k 0 ∧ bitsL.getD k 0 ≤ 128 := by decide
def sizeF (n : Int) : Int := if n = 28 ∨ n = 34 then 4 else (bitsL.getD n.toNat 0 + 7) / 8
def ir_field_size : IR :=
(.seq
(.keep [0]
(.reg (oD 2 (.mov (cI 0)) ::
[])))
(.seq
(.seq
(.reg (oM 3 0 ::
[]))
(.block 0
(.seq
(.seq
(.reg (oD 5 (.bin .eql (.t 3) (cI 28)) ::
oM 4 5 ::
[]))
(.cond (.t 4)
.skip
(.reg (oD 6 (.bin .eql (.t 3) (cI 34)) ::
oM 4 6 ::
[]))))
(.cond (.t 4)
(.seq
(.keep []
(.reg (oD 2 (.mov (cI 4)) ::
[])))
.ret)
.skip))))
(.seq
(.keep [0]
(.reg (oM 7 0 ::
oD 8 (.call false (.f 112) [(.t 7)]) ::
oD 9 (.bin .add (.t 8) (cI 8)) ::
oD 10 (.bin .sub (.t 9) (cI 1)) ::
oD 11 (.bin .quo (.t 10) (cI 8)) ::
oM 2 11 ::
[])))
.ret)))
def rd_field_size : List RD := [.tmp 2 true none]
theorem ok_field_size : fnOk Tryd.prog Tryd.f113 ir_field_size rd_field_size = true := by kernel_rfl
def S_field_size : List AV → List Obj → Option (Prop × AV)
  | [.int .i64 n], [] => some (0 ≤ n ∧ n < 40, .int .i64 (sizeF n))
  | _, _ => none
theorem snd_field_size : SoundS Tryd.prog 113 (RoF S_field_size).sum := by
  refine ro_fn Tryd.func113 ok_field_size (env_cons (s := RoF S_field_bits) snd_field_bits (env_nil _)) fun args objs p v e => ?_
  unfold S_field_size at e
  split at e
  · rename_i n
    cases e
    refine ⟨rfl, fun hw _ hp => ?_⟩
    repeat' (intro t ht; first | (cases t <;> first | (cases ht; done) | ((try simp only [bn_s] at ht); (try simp only [nd_s] at ht))) | (refine ht ?_ ?_ <;> clear ht) | (refine ht.1 ?_ ?_ <;> clear ht) | (refine ht ?_; clear ht))
    all_goals have hb := bits_le n.toNat (by omega)
    all_goals generalize hB : bitsL.getD n.toNat 0 = B at *
    all_goals first
      | exact hp
      | exact (by decide)
      | (exfalso; (try simp only [nd_s, bn_s, mm_s] at *); omega)
      | ((try simp only [nd_s, bn_s, mm_s] at *); omega)
      | ((try simp only [nd_s, bn_s, mm_s] at *); rw [tdiv_nn (by omega)]; omega)
      | (refine ⟨?_, rfl⟩; unfold sizeF; rw [tdiv_nn (by omega), hB, if_neg (by (try simp only [nd_s, bn_s, mm_s] at *); omega)]; congr 2; omega)
      | (refine ⟨?_, rfl⟩; unfold sizeF; rw [if_pos (by (try simp only [nd_s, bn_s, mm_s] at *); omega)])
  · cases e
def maskedF (n : Int) : Bool := [2, 3, 4, 6, 11, 12, 37, 38, 39, 22, 23, 24, 25, 26, 27, 28].contains n
def ir_field_masked : IR :=
(.seq
(.keep [0]
(.reg (oD 2 (.mov cF) ::
[])))
(.seq
(.seq
(.reg (oM 3 0 ::
[]))
(.block 0
(.seq
(.block 2
(.block 1
(.seq
(.seq
(.seq
(.seq
(.reg (oD 5 (.bin .eql (.t 3) (cI 2)) ::
oM 4 5 ::
[]))
(.cond (.t 4)
.skip
(.seq
(.reg (oD 6 (.bin .eql (.t 3) (cI 3)) ::
oM 4 6 ::
[]))
(.cond (.t 4)
.skip
(.seq
(.keep [3]
(.reg (oD 7 (.bin .eql (.t 3) (cI 4)) ::
oM 4 7 ::
[])))
(.cond (.t 4)
.skip
(.seq
(.reg (oD 8 (.bin .eql (.t 3) (cI 6)) ::
oM 4 8 ::
[]))
(.cond (.t 4)
.skip
(.seq
(.reg (oD 9 (.bin .eql (.t 3) (cI 11)) ::
oM 4 9 ::
[]))
(.cond (.t 4)
.skip
(.seq
(.keep [3]
(.reg (oD 10 (.bin .eql (.t 3) (cI 12)) ::
oM 4 10 ::
[])))
(.cond (.t 4)
.skip
(.seq
(.reg (oD 11 (.bin .eql (.t 3) (cI 37)) ::
oM 4 11 ::
[]))
(.cond (.t 4)
.skip
(.seq
(.reg (oD 12 (.bin .eql (.t 3) (cI 38)) ::
oM 4 12 ::
[]))
(.cond (.t 4)
.skip
(.keep [3]
(.reg (oD 13 (.bin .eql (.t 3) (cI 39)) ::
oM 4 13 ::
[])))))))))))))))))))
(.cond (.t 4)
(.exit 1)
.skip))
(.seq
(.seq
(.keep [3]
(.reg (oD 15 (.bin .eql (.t 3) (cI 22)) ::
oM 14 15 ::
[])))
(.cond (.t 14)
.skip
(.seq
(.reg (oD 16 (.bin .eql (.t 3) (cI 23)) ::
oM 14 16 ::
[]))
(.cond (.t 14)
.skip
(.seq
(.reg (oD 17 (.bin .eql (.t 3) (cI 24)) ::
oM 14 17 ::
[]))
(.cond (.t 14)
.skip
(.seq
(.keep [3]
(.reg (oD 18 (.bin .eql (.t 3) (cI 25)) ::
oM 14 18 ::
[])))
(.cond (.t 14)
.skip
(.seq
(.reg (oD 19 (.bin .eql (.t 3) (cI 26)) ::
oM 14 19 ::
[]))
(.cond (.t 14)
.skip
(.seq
(.reg (oD 20 (.bin .eql (.t 3) (cI 27)) ::
oM 14 20 ::
[]))
(.cond (.t 14)
.skip
(.keep [3]
(.reg (oD 21 (.bin .eql (.t 3) (cI 28)) ::
oM 14 21 ::
[])))))))))))))))
(.cond (.t 14)
(.exit 2)
.skip)))
(.exit 0))))
(.seq
(.seq
(.keep []
(.reg (oD 2 (.mov cT) ::
[])))
.ret)
(.exit 0)))))
(.seq
(.keep []
(.reg (oD 2 (.mov cF) ::
[])))
.ret)))
def rd_field_masked : List RD := [.tmp 2 true none]
theorem ok_field_masked : fnOk Tryd.prog Tryd.f114 ir_field_masked rd_field_masked = true := by kernel_rfl
def S_field_masked : List AV → List Obj → Option (Prop × AV)
  | [.int .i64 n], [] => some (True, .bool (maskedF n))
  | _, _ => none
theorem snd_field_masked : SoundS Tryd.prog 114 (RoF S_field_masked).sum := by
  refine ro_fn Tryd.func114 ok_field_masked (env_nil _) fun args objs p v e => ?_
  unfold S_field_masked at e
  split at e
  · rename_i n
    cases e
    refine ⟨rfl, fun hw _ hp => ?_⟩
    repeat' (intro t ht; first | (cases t <;> first | (cases ht; done) | ((try simp only [bn_s] at ht); (try simp only [nd_s] at ht))) | (refine ht ?_ ?_ <;> clear ht) | (refine ht.1 ?_ ?_ <;> clear ht) | (refine ht ?_; clear ht))
    all_goals refine ⟨?_, rfl⟩
    all_goals (congr 1; simp_all [maskedF]; done)
  · cases e
def deepF (n : Int) : Int × List Int :=
  if n = 13 ∨ n = 14 then (10, [6]) else if n = 15 ∨ n = 16 then (10, [17]) else if n = 17 ∨ n = 18 then (10, [132]) else if n = 19 ∨ n = 20 then (10, [1])
  else if n = 29 ∨ n = 30 then (10, [58]) else if n = 31 then (29, [135, 136]) else if n = 32 then (29, [135]) else if n = 33 then (29, [136]) else (-1, [])
def ir_field_deep : IR :=
(.seq
(.keep [0]
(.reg (oD 2 (.mov (cI 0)) ::
oD 3 (.mov (.c (.imm (.int .u64) []))) ::
[])))
(.seq
(.seq
(.reg (oM 4 0 ::
[]))
(.block 0
(.seq
(.seq
(.reg (oD 6 (.bin .eql (.t 4) (cI 13)) ::
oM 5 6 ::
[]))
(.cond (.t 5)
.skip
(.reg (oD 7 (.bin .eql (.t 4) (cI 14)) ::
oM 5 7 ::
[]))))
(.cond (.t 5)
(.seq
(.keep []
(.reg (oD 8 (.sliceAll (.int .u64) 1 [(0, 1, (.c (.int .u64 6)))]) ::
oD 2 (.mov (cI 10)) ::
oM 3 8 ::
[])))
.ret)
(.seq
(.seq
(.keep [0, 4]
(.reg (oD 10 (.bin .eql (.t 4) (cI 15)) ::
oM 9 10 ::
[])))
(.cond (.t 9)
.skip
(.reg (oD 11 (.bin .eql (.t 4) (cI 16)) ::
oM 9 11 ::
[]))))
(.cond (.t 9)
(.seq
(.reg (oD 12 (.sliceAll (.int .u64) 1 [(0, 1, (.c (.int .u64 17)))]) ::
oD 2 (.mov (cI 10)) ::
oM 3 12 ::
[]))
.ret)
(.seq
(.seq
(.reg (oD 14 (.bin .eql (.t 4) (cI 17)) ::
oM 13 14 ::
[]))
(.cond (.t 13)
.skip
(.keep [0, 4]
(.reg (oD 15 (.bin .eql (.t 4) (cI 18)) ::
oM 13 15 ::
[])))))
(.cond (.t 13)
(.seq
(.keep []
(.reg (oD 16 (.sliceAll (.int .u64) 1 [(0, 1, (.c (.int .u64 132)))]) ::
oD 2 (.mov (cI 10)) ::
oM 3 16 ::
[])))
.ret)
(.seq
(.seq
(.keep [0, 4]
(.reg (oD 18 (.bin .eql (.t 4) (cI 19)) ::
oM 17 18 ::
[])))
(.cond (.t 17)
.skip
(.reg (oD 19 (.bin .eql (.t 4) (cI 20)) ::
oM 17 19 ::
[]))))
(.cond (.t 17)
(.seq
(.reg (oD 20 (.sliceAll (.int .u64) 1 [(0, 1, (.c (.int .u64 1)))]) ::
oD 2 (.mov (cI 10)) ::
oM 3 20 ::
[]))
.ret)
(.seq
(.seq
(.reg (oD 22 (.bin .eql (.t 4) (cI 29)) ::
oM 21 22 ::
[]))
(.cond (.t 21)
.skip
(.keep [0, 4]
(.reg (oD 23 (.bin .eql (.t 4) (cI 30)) ::
oM 21 23 ::
[])))))
(.cond (.t 21)
(.seq
(.keep []
(.reg (oD 24 (.sliceAll (.int .u64) 1 [(0, 1, (.c (.int .u64 58)))]) ::
oD 2 (.mov (cI 10)) ::
oM 3 24 ::
[])))
.ret)
(.seq
(.keep [0, 4]
(.reg (oD 26 (.bin .eql (.t 4) (cI 31)) ::
oM 25 26 ::
[])))
(.cond (.t 25)
(.seq
(.reg (oD 27 (.sliceAll (.int .u64) 2 [(0, 1, (.c (.int .u64 135))), (1, 1, (.c (.int .u64 136)))]) ::
oD 2 (.mov (cI 29)) ::
oM 3 27 ::
[]))
.ret)
(.seq
(.seq
(.reg (oD 29 (.bin .eql (.t 4) (cI 32)) ::
oM 28 29 ::
[]))
(.cond (.t 28)
.skip
(.reg (oD 30 (.bin .eql (.t 4) (cI 33)) ::
oM 28 30 ::
[]))))
(.cond (.t 28)
(.seq
(.keep [0]
(.reg (oM 31 0 ::
oD 32 (.conv .u64 (.t 31)) ::
oD 33 (.bin .add (.t 32) (.c (.int .u64 103))) ::
oD 34 (.sliceAll (.int .u64) 1 [(0, 1, (.t 33))]) ::
oD 2 (.mov (cI 29)) ::
oM 3 34 ::
[])))
.ret)
.skip))))))))))))))))
(.seq
(.keep []
(.reg (oD 2 (.mov (cI (-1))) ::
oD 3 (.mov (.c (.imm (.int .u64) []))) ::
[])))
.ret)))
def rd_field_deep : List RD := [.tmp 2 true none, .tmp 3 true (some (.int .u64))]
theorem ok_field_deep : fnOk Tryd.prog Tryd.f122 ir_field_deep rd_field_deep = true := by kernel_rfl
def S_field_deep : List AV → List Obj → Option (Prop × AV)
  | [.int .i64 n], [] => some (True, .tup [.int .i64 (deepF n).1, .imm (.int .u64) (deepF n).2])
  | _, _ => none
theorem snd_field_deep : SoundS Tryd.prog 122 (RoF S_field_deep).sum := by
  refine ro_fn Tryd.func122 ok_field_deep (env_nil _) fun args objs p v e => ?_
  unfold S_field_deep at e
  split at e
  · rename_i n
    cases e
    refine ⟨rfl, fun hw _ hp => ?_⟩
    repeat' (intro t ht; first | (cases t <;> first | (cases ht; done) | ((try simp only [bn_s] at ht); (try simp only [nd_s] at ht))) | (refine ht ?_ ?_ <;> clear ht) | (refine ht.1 ?_ ?_ <;> clear ht) | (refine ht ?_; clear ht))
    all_goals first
      | (exfalso; (try simp only [nd_s, bn_s, mm_s] at *); omega)
      | (refine ⟨?_, rfl⟩; simp_all [deepF]; done)
      | ((try simp only [nd_s, bn_s, mm_s] at *); omega)
      | ((try simp only [nd_s, bn_s, mm_s] at *); subst_vars; exact ⟨rfl, rfl⟩)
      | ((try simp only [nd_s, bn_s, mm_s] at *); have hn : n = 32 ∨ n = 33 := by omega
         rcases hn with rfl | rfl <;> exact ⟨rfl, rfl⟩)
      | trace_state
  · cases e
def needF (n : Int) : Int × List Int :=
  if n = 1 then (0, []) else if n = 7 then (6, []) else if n = 8 ∨ n = 9 ∨ n = 10 then (5, [2048, 34525]) else if n = 11 ∨ n = 12 then (5, [2048])
  else if n = 21 ∨ n = 22 ∨ n = 23 ∨ n = 24 ∨ n = 25 then (5, [2054]) else if n = 26 ∨ n = 27 ∨ n = 28 ∨ n = 39 then (5, [34525])
  else if n = 34 ∨ n = 35 ∨ n = 36 then (5, [34887, 34888]) else if n = 37 then (5, [35047]) else deepF n
def ir_field_need : IR :=
(.seq
(.keep [0]
(.reg (oD 2 (.mov (cI 0)) ::
oD 3 (.mov (.c (.imm (.int .u64) []))) ::
[])))
(.seq
(.seq
(.reg (oM 4 0 ::
[]))
(.block 0
(.seq
(.reg (oD 6 (.bin .eql (.t 4) (cI 1)) ::
oM 5 6 ::
[]))
(.cond (.t 5)
(.seq
(.reg (oD 2 (.mov (cI 0)) ::
oD 3 (.mov (.c (.imm (.int .u64) []))) ::
[]))
.ret)
(.seq
(.reg (oD 8 (.bin .eql (.t 4) (cI 7)) ::
oM 7 8 ::
[]))
(.cond (.t 7)
(.seq
(.keep []
(.reg (oD 2 (.mov (cI 6)) ::
oD 3 (.mov (.c (.imm (.int .u64) []))) ::
[])))
.ret)
(.seq
(.seq
(.keep [0, 4]
(.reg (oD 10 (.bin .eql (.t 4) (cI 8)) ::
oM 9 10 ::
[])))
(.cond (.t 9)
.skip
(.seq
(.reg (oD 11 (.bin .eql (.t 4) (cI 9)) ::
oM 9 11 ::
[]))
(.cond (.t 9)
.skip
(.reg (oD 12 (.bin .eql (.t 4) (cI 10)) ::
oM 9 12 ::
[]))))))
(.cond (.t 9)
(.seq
(.keep []
(.reg (oD 13 (.sliceAll (.int .u64) 2 [(0, 1, (.c (.int .u64 2048))), (1, 1, (.c (.int .u64 34525)))]) ::
oD 2 (.mov (cI 5)) ::
oM 3 13 ::
[])))
.ret)
(.seq
(.seq
(.keep [0, 4]
(.reg (oD 15 (.bin .eql (.t 4) (cI 11)) ::
oM 14 15 ::
[])))
(.cond (.t 14)
.skip
(.reg (oD 16 (.bin .eql (.t 4) (cI 12)) ::
oM 14 16 ::
[]))))
(.cond (.t 14)
(.seq
(.reg (oD 17 (.sliceAll (.int .u64) 1 [(0, 1, (.c (.int .u64 2048)))]) ::
oD 2 (.mov (cI 5)) ::
oM 3 17 ::
[]))
.ret)
(.seq
(.seq
(.reg (oD 19 (.bin .eql (.t 4) (cI 21)) ::
oM 18 19 ::
[]))
(.cond (.t 18)
.skip
(.seq
(.keep [0, 4]
(.reg (oD 20 (.bin .eql (.t 4) (cI 22)) ::
oM 18 20 ::
[])))
(.cond (.t 18)
.skip
(.seq
(.reg (oD 21 (.bin .eql (.t 4) (cI 23)) ::
oM 18 21 ::
[]))
(.cond (.t 18)
.skip
(.seq
(.reg (oD 22 (.bin .eql (.t 4) (cI 24)) ::
oM 18 22 ::
[]))
(.cond (.t 18)
.skip
(.keep [0, 4]
(.reg (oD 23 (.bin .eql (.t 4) (cI 25)) ::
oM 18 23 ::
[])))))))))))
(.cond (.t 18)
(.seq
(.keep []
(.reg (oD 24 (.sliceAll (.int .u64) 1 [(0, 1, (.c (.int .u64 2054)))]) ::
oD 2 (.mov (cI 5)) ::
oM 3 24 ::
[])))
.ret)
(.seq
(.seq
(.keep [0, 4]
(.reg (oD 26 (.bin .eql (.t 4) (cI 26)) ::
oM 25 26 ::
[])))
(.cond (.t 25)
.skip
(.seq
(.reg (oD 27 (.bin .eql (.t 4) (cI 27)) ::
oM 25 27 ::
[]))
(.cond (.t 25)
.skip
(.seq
(.reg (oD 28 (.bin .eql (.t 4) (cI 28)) ::
oM 25 28 ::
[]))
(.cond (.t 25)
.skip
(.keep [0, 4]
(.reg (oD 29 (.bin .eql (.t 4) (cI 39)) ::
oM 25 29 ::
[])))))))))
(.cond (.t 25)
(.seq
(.keep []
(.reg (oD 30 (.sliceAll (.int .u64) 1 [(0, 1, (.c (.int .u64 34525)))]) ::
oD 2 (.mov (cI 5)) ::
oM 3 30 ::
[])))
.ret)
(.seq
(.seq
(.keep [0, 4]
(.reg (oD 32 (.bin .eql (.t 4) (cI 34)) ::
oM 31 32 ::
[])))
(.cond (.t 31)
.skip
(.seq
(.reg (oD 33 (.bin .eql (.t 4) (cI 35)) ::
oM 31 33 ::
[]))
(.cond (.t 31)
.skip
(.reg (oD 34 (.bin .eql (.t 4) (cI 36)) ::
oM 31 34 ::
[]))))))
(.cond (.t 31)
(.seq
(.keep []
(.reg (oD 35 (.sliceAll (.int .u64) 2 [(0, 1, (.c (.int .u64 34887))), (1, 1, (.c (.int .u64 34888)))]) ::
oD 2 (.mov (cI 5)) ::
oM 3 35 ::
[])))
.ret)
(.seq
(.keep [0, 4]
(.reg (oD 37 (.bin .eql (.t 4) (cI 37)) ::
oM 36 37 ::
[])))
(.cond (.t 36)
(.seq
(.reg (oD 38 (.sliceAll (.int .u64) 1 [(0, 1, (.c (.int .u64 35047)))]) ::
oD 2 (.mov (cI 5)) ::
oM 3 38 ::
[]))
.ret)
.skip))))))))))))))))))
(.seq
(.keep [0]
(.reg (oM 39 0 ::
oD 40 (.call false (.f 122) [(.t 39)]) ::
oD 41 (.extract (.t 40) 0) ::
oD 42 (.extract (.t 40) 1) ::
oM 2 41 ::
oM 3 42 ::
[])))
.ret)))
def rd_field_need : List RD := [.tmp 2 true none, .tmp 3 true (some (.int .u64))]
theorem ok_field_need : fnOk Tryd.prog Tryd.f115 ir_field_need rd_field_need = true := by kernel_rfl
def S_field_need : List AV → List Obj → Option (Prop × AV)
  | [.int .i64 n], [] => some (True, .tup [.int .i64 (needF n).1, .imm (.int .u64) (needF n).2])
  | _, _ => none
theorem snd_field_need : SoundS Tryd.prog 115 (RoF S_field_need).sum := by
  refine ro_fn Tryd.func115 ok_field_need (env_cons (s := RoF S_field_deep) snd_field_deep (env_nil _)) fun args objs p v e => ?_
  unfold S_field_need at e
  split at e
  · rename_i n
    cases e
    refine ⟨rfl, fun hw _ hp => ?_⟩
    repeat' (intro t ht; first | (cases t <;> first | (cases ht; done) | ((try simp only [bn_s] at ht); (try simp only [nd_s] at ht))) | (refine ht ?_ ?_ <;> clear ht) | (refine ht.1 ?_ ?_ <;> clear ht) | (refine ht ?_; clear ht))
    all_goals first
      | trivial
      | (exfalso; (try simp only [nd_s, bn_s, mm_s] at *); omega)
      | (refine ⟨?_, rfl⟩; simp_all [needF]; done)
      | ((try simp only [nd_s, bn_s, mm_s] at *); subst_vars; exact ⟨rfl, rfl⟩)
      | trace_state
  · cases e
def namesL : List (List Int) := [[105, 110, 95, 112, 111, 114, 116], [105, 110, 95, 112, 104, 121, 95, 112, 111, 114, 116], [109, 101, 116, 97, 100, 97, 116, 97], [101, 116, 104, 95, 100, 115, 116], [101, 116, 104, 95, 115, 114, 99], [101, 116, 104, 95, 116, 121, 112, 101], [118, 108, 97, 110, 95, 118, 105, 100], [118, 108, 97, 110, 95, 112, 99, 112], [105, 112, 95, 100, 115, 99, 112], [105, 112, 95, 101, 99, 110], [105, 112, 95, 112, 114, 111, 116, 111], [105, 112, 118, 52, 95, 115, 114, 99], [105, 112, 118, 52, 95, 100, 115, 116], [116, 99, 112, 95, 115, 114, 99], [116, 99, 112, 95, 100, 115, 116], [117, 100, 112, 95, 115, 114, 99], [117, 100, 112, 95, 100, 115, 116], [115, 99, 116, 112, 95, 115, 114, 99], [115, 99, 116, 112, 95, 100, 115, 116], [105, 99, 109, 112, 118, 52, 95, 116, 121, 112, 101], [105, 99, 109, 112, 118, 52, 95, 99, 111, 100, 101], [97, 114, 112, 95, 111, 112], [97, 114, 112, 95, 115, 112, 97], [97, 114, 112, 95, 116, 112, 97], [97, 114, 112, 95, 115, 104, 97], [97, 114, 112, 95, 116, 104, 97], [105, 112, 118, 54, 95, 115, 114, 99], [105, 112, 118, 54, 95, 100, 115, 116], [105, 112, 118, 54, 95, 102, 108, 97, 98, 101, 108], [105, 99, 109, 112, 118, 54, 95, 116, 121, 112, 101], [105, 99, 109, 112, 118, 54, 95, 99, 111, 100, 101], [105, 112, 118, 54, 95, 110, 100, 95, 116, 97, 114, 103, 101, 116], [105, 112, 118, 54, 95, 110, 100, 95, 115, 108, 108], [105, 112, 118, 54, 95, 110, 100, 95, 116, 108, 108], [109, 112, 108, 115, 95, 108, 97, 98, 101, 108], [109, 112, 108, 115, 95, 116, 99], [109, 112, 108, 115, 95, 98, 111, 115], [112, 98, 98, 95, 105, 115, 105, 100], [116, 117, 110, 110, 101, 108, 95, 105, 100], [105, 112, 118, 54, 95, 101, 120, 116, 104, 100, 114]]
def nameF (n : Int) : List Int := if fIs n then namesL.getD n.toNat [] else []
def settF (n : Int) : Bool := decide (2 < n) && decide (n < 39)
def ir_field_Settable : IR :=
(.seq
(.keep [0]
(.reg (oD 2 (.mov cF) ::
[])))
(.seq
(.keep [0]
(.reg (oM 3 0 ::
oD 4 (.call false (.f 111) [(.t 3)]) ::
oM 5 4 ::
oT 5 6 (.mov (.t 0)) ::
oT 5 7 (.bin .gtr (.t 6) (cI 2)) ::
oD 8 (.pick (.t 5) (.t 7) cF) ::
oM 9 8 ::
oT 9 10 (.mov (.t 0)) ::
oT 9 11 (.bin .neq (.t 10) (cI 39)) ::
oD 12 (.pick (.t 9) (.t 11) cF) ::
oM 2 12 ::
[])))
.ret))
def rd_field_Settable : List RD := [.tmp 2 true none]
theorem ok_field_Settable : fnOk Tryd.prog Tryd.f105 ir_field_Settable rd_field_Settable = true := by kernel_rfl
def S_field_Settable : List AV → List Obj → Option (Prop × AV)
  | [.int .i64 n], [] => some ((True, .bool (settF n)))
  | _, _ => none
theorem snd_field_Settable : SoundS Tryd.prog 105 (RoF S_field_Settable).sum := by
  refine ro_fn Tryd.func105 ok_field_Settable (env_cons (s := RoF S_field_is) snd_field_is (env_nil _)) fun args objs p v e => ?_
  unfold S_field_Settable at e
  split at e
  · rename_i n
    cases e
    refine ⟨rfl, fun hw ho hp => ?_⟩
    repeat' (intro t ht; first | (cases t <;> first | (cases ht; done) | ((try simp only [bn_s] at ht); (try simp only [nd_s] at ht))) | (refine ht ?_ ?_ <;> clear ht) | (refine ht.1 ?_ ?_ <;> clear ht) | (refine ht ?_; clear ht))
    all_goals first
      | trivial
      | (refine ⟨?_, rfl⟩; unfold settF; congr 1; rw [Bool.eq_iff_iff]; first | (have h := fIs_t.1 (by assumption); simp at *; omega) | (have h := fIs_f.1 (by assumption); simp at *; omega) | (simp at *; omega))
  · cases e
def fBits (n : Int) : Int := if fIs n then bitsL.getD n.toNat 0 else 0
def fSize (n : Int) : Int := if fIs n then sizeF n else 0
def fMask (n : Int) : Bool := if fIs n then maskedF n else false
def fNeed (n : Int) : Int := if fIs n then (needF n).1 else 0
def fVals (n : Int) : List Int := if fIs n then (needF n).2 else []
abbrev ofF (n : Int) : AV := .tup [.agg [.int .i64 (fBits n), .int .i64 (fSize n), .bool (fMask n), .int .i64 (fNeed n), .imm (.int .u64) (fVals n)], .bool (fIs n)]
def ir_field_Of : IR :=
(.seq
(.keep [0]
(.reg (oD 2 (.box [.int .i64 0, .int .i64 0, .kb false, .int .i64 0, .imm (.int .u64) []]) ::
oD 3 (.mov cF) ::
[])))
(.seq
(.seq
(.reg (oM 5 0 ::
oD 6 (.call false (.f 111) [(.t 5)]) ::
oD 7 (.un .not (.t 6)) ::
[]))
(.cond (.t 7)
(.seq
(.reg (oD 8 (.build [.int .i64 0, .int .i64 0, .kb false, .int .i64 0, .imm (.int .u64) []] []) ::
oN (.store 5 (.t 2) (.t 8)) ::
oD 3 (.mov cF) ::
[]))
.ret)
.skip))
(.seq
(.keep [0, 2]
(.reg (oM 9 0 ::
oD 10 (.call false (.f 112) [(.t 9)]) ::
oM 11 0 ::
oD 12 (.call false (.f 113) [(.t 11)]) ::
oM 13 0 ::
oD 14 (.call false (.f 114) [(.t 13)]) ::
oD 15 (.build [.int .i64 0, .int .i64 0, .kb false, .int .i64 0, .imm (.int .u64) []] [(0, 1, (.t 10)), (1, 1, (.t 12)), (2, 1, (.t 14))]) ::
oD 4 (.box [.int .i64 0, .int .i64 0, .kb false, .int .i64 0, .imm (.int .u64) []]) ::
oN (.store 5 (.t 4) (.t 15)) ::
[])))
(.seq
(.keep [0, 2, 4]
(.reg (oM 17 0 ::
oD 18 (.call false (.f 115) [(.t 17)]) ::
oM 16 18 ::
oD 19 (.extract (.t 16) 0) ::
oD 20 (.extract (.t 16) 1) ::
oD 21 (.fieldAddr 3 (.t 4)) ::
oN (.store 1 (.t 21) (.t 19)) ::
oD 22 (.fieldAddr 4 (.t 4)) ::
oN (.store 1 (.t 22) (.t 20)) ::
[])))
(.seq
(.keep [2, 4]
(.reg (oD 23 (.load (some 5) (.t 4)) ::
oN (.store 5 (.t 2) (.t 23)) ::
oD 3 (.mov cT) ::
[])))
.ret)))))
def rd_field_Of : List RD := [.cell 2 (some 5) true [], .tmp 3 true none]
theorem ok_field_Of : fnOk Tryd.prog Tryd.f98 ir_field_Of rd_field_Of = true := by kernel_rfl
def S_field_Of : List AV → List Obj → Option (Prop × AV)
  | [.int .i64 n], [] => some ((True, ofF n))
  | _, _ => none
theorem snd_field_Of : SoundS Tryd.prog 98 (RoF S_field_Of).sum := by
  refine ro_fn Tryd.func98 ok_field_Of (env_cons (s := RoF S_field_is) snd_field_is (env_cons (s := RoF S_field_bits) snd_field_bits (env_cons (s := RoF S_field_size) snd_field_size (env_cons (s := RoF S_field_masked) snd_field_masked (env_cons (s := RoF S_field_need) snd_field_need (env_nil _)))))) fun args objs p v e => ?_
  unfold S_field_Of at e
  split at e
  · rename_i n
    cases e
    refine ⟨rfl, fun hw ho hp => ?_⟩
    repeat' (intro t ht; first | (cases t <;> first | (cases ht; done) | ((try simp only [bn_s] at ht); (try simp only [nd_s] at ht))) | (refine ht ?_ ?_ <;> clear ht) | (refine ht.1 ?_ ?_ <;> clear ht) | (refine ht ?_; clear ht))
    all_goals try (try simp only [nd_s, bn_s, mm_s] at *)
    all_goals first
      | exact fIs_t.1 (by assumption)
      | (simp_all [ofF, fBits, fSize, fMask, fNeed, fVals]; done)
  · cases e
def idxF : List (List Int) → List Int → Nat → Int
  | [], _, _ => -1
  | a :: r, s, k => if s = a then k else idxF r s (k + 1)
theorem idxF_step {l : List (List Int)} {s : List Int} {i : Nat} (h : i < l.length) : idxF (l.drop i) s i = if s = l.getD i [] then (i : Int) else idxF (l.drop (i + 1)) s (i + 1) := by
  rw [List.drop_eq_getElem_cons h, List.getD_eq_getElem?_getD, List.getElem?_eq_getElem h]
  rfl
theorem idxF_end {l : List (List Int)} {s : List Int} {i : Nat} (h : l.length ≤ i) : idxF (l.drop i) s i = -1 := by
  rw [List.drop_of_length_le h]; rfl
def findN (s : List Int) : Int := if 0 > idxF namesL s 0 then 0 else idxF namesL s 0
def findB (s : List Int) : Bool := decide (0 ≤ idxF namesL s 0)
abbrev fieldT : Ty := (.cons .str (.cons (.int .i64) (.cons (.int .i64) (.cons .bool (.cons (.int .i64) (.cons (.sl (.int .u64)) .nil))))))
def tab : List fieldT.den := [([105, 110, 95, 112, 111, 114, 116], 32, 4, false, -1, [], ()),
  ([105, 110, 95, 112, 104, 121, 95, 112, 111, 114, 116], 32, 4, false, 0, [], ()),
  ([109, 101, 116, 97, 100, 97, 116, 97], 64, 8, true, -1, [], ()),
  ([101, 116, 104, 95, 100, 115, 116], 48, 6, true, -1, [], ()),
  ([101, 116, 104, 95, 115, 114, 99], 48, 6, true, -1, [], ()),
  ([101, 116, 104, 95, 116, 121, 112, 101], 16, 2, false, -1, [], ()),
  ([118, 108, 97, 110, 95, 118, 105, 100], 13, 2, true, -1, [], ()),
  ([118, 108, 97, 110, 95, 112, 99, 112], 3, 1, false, 6, [], ()),
  ([105, 112, 95, 100, 115, 99, 112], 6, 1, false, 5, [2048, 34525], ()),
  ([105, 112, 95, 101, 99, 110], 2, 1, false, 5, [2048, 34525], ()),
  ([105, 112, 95, 112, 114, 111, 116, 111], 8, 1, false, 5, [2048, 34525], ()),
  ([105, 112, 118, 52, 95, 115, 114, 99], 32, 4, true, 5, [2048], ()),
  ([105, 112, 118, 52, 95, 100, 115, 116], 32, 4, true, 5, [2048], ()),
  ([116, 99, 112, 95, 115, 114, 99], 16, 2, false, 10, [6], ()),
  ([116, 99, 112, 95, 100, 115, 116], 16, 2, false, 10, [6], ()),
  ([117, 100, 112, 95, 115, 114, 99], 16, 2, false, 10, [17], ()),
  ([117, 100, 112, 95, 100, 115, 116], 16, 2, false, 10, [17], ()),
  ([115, 99, 116, 112, 95, 115, 114, 99], 16, 2, false, 10, [132], ()),
  ([115, 99, 116, 112, 95, 100, 115, 116], 16, 2, false, 10, [132], ()),
  ([105, 99, 109, 112, 118, 52, 95, 116, 121, 112, 101], 8, 1, false, 10, [1], ()),
  ([105, 99, 109, 112, 118, 52, 95, 99, 111, 100, 101], 8, 1, false, 10, [1], ()),
  ([97, 114, 112, 95, 111, 112], 16, 2, false, 5, [2054], ()),
  ([97, 114, 112, 95, 115, 112, 97], 32, 4, true, 5, [2054], ()),
  ([97, 114, 112, 95, 116, 112, 97], 32, 4, true, 5, [2054], ()),
  ([97, 114, 112, 95, 115, 104, 97], 48, 6, true, 5, [2054], ()),
  ([97, 114, 112, 95, 116, 104, 97], 48, 6, true, 5, [2054], ()),
  ([105, 112, 118, 54, 95, 115, 114, 99], 128, 16, true, 5, [34525], ()),
  ([105, 112, 118, 54, 95, 100, 115, 116], 128, 16, true, 5, [34525], ()),
  ([105, 112, 118, 54, 95, 102, 108, 97, 98, 101, 108], 20, 4, true, 5, [34525], ()),
  ([105, 99, 109, 112, 118, 54, 95, 116, 121, 112, 101], 8, 1, false, 10, [58], ()),
  ([105, 99, 109, 112, 118, 54, 95, 99, 111, 100, 101], 8, 1, false, 10, [58], ()),
  ([105, 112, 118, 54, 95, 110, 100, 95, 116, 97, 114, 103, 101, 116], 128, 16, false, 29, [135, 136], ()),
  ([105, 112, 118, 54, 95, 110, 100, 95, 115, 108, 108], 48, 6, false, 29, [135], ()),
  ([105, 112, 118, 54, 95, 110, 100, 95, 116, 108, 108], 48, 6, false, 29, [136], ()),
  ([109, 112, 108, 115, 95, 108, 97, 98, 101, 108], 20, 4, false, 5, [34887, 34888], ()),
  ([109, 112, 108, 115, 95, 116, 99], 3, 1, false, 5, [34887, 34888], ()),
  ([109, 112, 108, 115, 95, 98, 111, 115], 1, 1, false, 5, [34887, 34888], ()),
  ([112, 98, 98, 95, 105, 115, 105, 100], 24, 3, true, 5, [35047], ()),
  ([116, 117, 110, 110, 101, 108, 95, 105, 100], 64, 8, true, -1, [], ()),
  ([105, 112, 118, 54, 95, 101, 120, 116, 104, 100, 114], 9, 2, true, 5, [34525], ())]
def tabG (n : Int) : fieldT.den := tab.getD n.toNat fieldT.dflt
def nameR (n : Int) : List Int := if fIs n then (tabG n).1 else []
def bitsR (n : Int) : Int := if fIs n then (tabG n).2.1 else 0
def sizeR (n : Int) : Int := if fIs n then (tabG n).2.2.1 else 0
def maskR (n : Int) : Bool := if fIs n then (tabG n).2.2.2.1 else false
def needR (n : Int) : Int := if fIs n then (tabG n).2.2.2.2.1 else 0
def valsR (n : Int) : List Int := if fIs n then (tabG n).2.2.2.2.2.1 else []
abbrev ofR (n : Int) : AV := .tup [.agg [.str (nameR n), .int .i64 (bitsR n), .int .i64 (sizeR n), .bool (maskR n), .int .i64 (needR n), .imm (.int .u64) (valsR n)], .bool (fIs n)]
theorem tabL : tab.length = 40 := rfl
def spareF (s : Int) : List Int → Bool
  | [] => true
  | b :: r => if b.fdiv (2 ^ (min (8 - (if 8 < s then 8 else s)).toNat 8)) = 0 then spareF (s - (if 8 < s then 8 else s)) r else false
theorem spareF_step {s : Int} {v : List Int} {i : Nat} (h : i < v.length) : spareF s (v.drop i) = if (v.getD i 0).fdiv (2 ^ (min (8 - (if 8 < s then 8 else s)).toNat 8)) = 0 then spareF (s - (if 8 < s then 8 else s)) (v.drop (i + 1)) else false := by
  rw [List.drop_eq_getElem_cons h, List.getD_eq_getElem?_getD, List.getElem?_eq_getElem h]
  rfl
theorem spareF_end {s : Int} {v : List Int} {i : Nat} (h : v.length ≤ i) : spareF s (v.drop i) = true := by
  rw [List.drop_of_length_le h]; rfl
def fitsF (n : Int) (v : List Int) : Bool := if (0 ≤ n ∧ n < 40) ∧ (v.length : Int) = sizeF n then spareF (8 * sizeF n - bitsL.getD n.toNat 0) v else false
theorem size_le : ∀ k < 40, 1 ≤ sizeF (k : Nat) ∧ sizeF (k : Nat) ≤ 16 ∧ 0 ≤ 8 * sizeF (k : Nat) - bitsL.getD k 0 ∧ 8 * sizeF (k : Nat) - bitsL.getD k 0 ≤ 12 := by decide
def ir_field_Fits : IR :=
(.seq
(.keep [0, 1]
(.reg (oD 4 (.mov cF) ::
[])))
(.seq
(.seq
(.keep [0, 1]
(.reg (oM 9 0 ::
oD 10 (.call false (.f 111) [(.t 9)]) ::
oD 11 (.un .not (.t 10)) ::
oM 12 11 ::
oF 12 13 (.mov (.t 1)) ::
oF 12 14 (.len (.t 13)) ::
oF 12 15 (.mov (.t 0)) ::
oF 12 16 (.call false (.f 113) [(.t 15)]) ::
oF 12 17 (.bin .neq (.t 14) (.t 16)) ::
oD 18 (.pick (.t 12) cT (.t 17)) ::
[])))
(.cond (.t 18)
(.seq
(.keep []
(.reg (oD 4 (.mov cF) ::
[])))
.ret)
.skip))
(.seq
(.keep [0, 1]
(.reg (oM 19 0 ::
oD 20 (.call false (.f 113) [(.t 19)]) ::
oD 21 (.bin .mul (cI 8) (.t 20)) ::
oM 22 0 ::
oD 23 (.call false (.f 112) [(.t 22)]) ::
oD 24 (.bin .sub (.t 21) (.t 23)) ::
oM 5 24 ::
[])))
(.seq
(.seq
(.keep [1, 5]
(.reg (oM 25 1 ::
oD 26 (.len (.t 25)) ::
oD 27 (.mov (cI 0)) ::
[])))
(.block 0
(.loop
(.seq
(.keep [5, 25, 26, 27]
(.reg (oD 28 (.bin .lss (.t 27) (.t 26)) ::
[])))
(.seq
(.cond (.t 28)
.skip
(.exit 0))
(.seq
(.block 1
(.seq
(.reg (oD 29 (.indexSl 1 (.t 25) (.t 27)) ::
oL 30 29 ::
oM 7 30 ::
[]))
(.seq
(.reg (oM 31 5 ::
oD 32 (.minmax false (.t 31) (cI 8)) ::
oM 8 32 ::
[]))
(.seq
(.seq
(.keep [5, 7, 8, 25, 26, 27]
(.reg (oM 33 7 ::
oM 34 8 ::
oD 35 (.bin .sub (cI 8) (.t 34)) ::
oD 36 (.bin .shr (.t 33) (.t 35)) ::
oD 37 (.bin .neq (.t 36) (.c (.int .u8 0))) ::
[])))
(.cond (.t 37)
(.seq
(.reg (oD 4 (.mov cF) ::
[]))
.ret)
.skip))
(.keep [5, 8, 25, 26, 27]
(.reg (oM 38 5 ::
oM 39 8 ::
oD 40 (.bin .sub (.t 38) (.t 39)) ::
oM 5 40 ::
[])))))))
(.keep [5, 25, 26, 27]
(.reg (oD 41 (.bin .add (.t 27) (cI 1)) ::
oM 27 41 ::
[])))))))))
(.seq
(.keep []
(.reg (oD 4 (.mov cT) ::
[])))
.ret)))))
def rd_field_Fits : List RD := [.tmp 4 true none]
theorem ok_field_Fits : fnOk Tryd.prog Tryd.f99 ir_field_Fits rd_field_Fits = true := by kernel_rfl
def S_field_Fits : List AV → List Obj → Option (Prop × AV)
  | [.int .i64 n, .imm (.int .u8) v], [] => some (True, .bool (fitsF n v))
  | _, _ => none
theorem snd_field_Fits : SoundS Tryd.prog 99 (RoF S_field_Fits).sum := by
  refine ro_fn Tryd.func99 ok_field_Fits (env_cons (s := RoF S_field_is) snd_field_is (env_cons (s := RoF S_field_size) snd_field_size (env_cons (s := RoF S_field_bits) snd_field_bits (env_nil _)))) fun args objs p v e => ?_
  unfold S_field_Fits at e
  split at e
  · rename_i n v
    cases e
    refine ⟨rfl, fun hw _ hp => ?_⟩
    have hl : v.length ≤ maxLen := (hw (.imm (.int .u8) v) (by simp)).2
    unfold maxLen at hl
    repeat' (intro t ht; first | (cases t <;> first | (cases ht; done) | ((try simp only [bn_s] at ht); (try simp only [nd_s] at ht))) | (refine ht ?_ ?_ <;> clear ht) | (refine ht.1 ?_ ?_ <;> clear ht) | (refine ht ?_; clear ht))
    all_goals first
      | trivial
      | (intro r h1 h2; (try simp only [fIs_t, fIs_f, nd_s, bn_s, mm_s] at *)
         have hsz := size_le n.toNat (by omega)
         rw [Int.toNat_of_nonneg (by omega)] at hsz
         refine h2 ⟨[25, 26, 27, 5], Nat × Int, (fun p => p.1 ≤ v.length ∧ 0 ≤ p.2 ∧ p.2 ≤ 12 ∧ spareF (8 * sizeF n - bitsL.getD n.toNat 0) v = spareF p.2 (v.drop p.1)),
           fun a => [.imm (.int .u8) v, .int .i64 v.length, .int .i64 a.1, .int .i64 a.2], fun _ => [], fun a => v.length - a.1, ⟨(0, 8 * sizeF n - bitsL.getD n.toNat 0), ⟨Nat.zero_le _, hsz.2.2.1, hsz.2.2.2, rfl⟩, rfl, rfl⟩, ?_⟩
         clear h1 h2)
      | ((try simp only [fIs_t, fIs_f, nd_s, bn_s, mm_s] at *); omega)
      | ((try simp only [fIs_t, fIs_f, nd_s, bn_s, mm_s] at *); have hsz := size_le n.toNat (by omega)
         rw [Int.toNat_of_nonneg (by omega)] at hsz
         have hb := bits_le n.toNat (by omega)
         omega)
      | (refine ⟨?_, rfl⟩; (try simp only [fIs_t, fIs_f, nd_s, bn_s, mm_s] at *); unfold fitsF; rw [if_neg (by omega)])
    rintro ⟨i, s⟩ ⟨hi, hs0, hs1, he⟩
    dsimp only at hi hs0 hs1 he
    repeat' (intro t ht; first | (cases t <;> first | (cases ht; done) | ((try simp only [bn_s] at ht); (try simp only [nd_s] at ht))) | (refine ht ?_ ?_ <;> clear ht) | (refine ht.1 ?_ ?_ <;> clear ht) | (refine ht ?_; clear ht))
    all_goals have hk : 0 ≤ (if (8 : Int) < s then 8 else s) ∧ (if (8 : Int) < s then 8 else s) ≤ 8 ∧ (if (8 : Int) < s then 8 else s) ≤ s := by split <;> omega
    all_goals have hv : (0 ≤ n ∧ n < 40) ∧ (v.length : Int) = sizeF n := ⟨by omega, by omega⟩
    all_goals first
      | (refine ⟨?_, rfl⟩; unfold fitsF; rw [if_pos hv, he]; (try simp only [fIs_t, fIs_f, nd_s, bn_s, mm_s] at *); rw [spareF_end (by omega)]; done)
      | (refine ⟨?_, rfl⟩; unfold fitsF; rw [if_pos hv, he]; (try simp only [fIs_t, fIs_f, nd_s, bn_s, mm_s] at *); rw [spareF_step (by omega), if_neg (by assumption)]; done)
      | ((try simp only [fIs_t, fIs_f, nd_s, bn_s, mm_s] at *); omega)
      | ((try simp only [fIs_t, fIs_f, nd_s, bn_s, mm_s] at *); generalize (if (8 : Int) < s then 8 else s) = k at *; omega)
      | (have hlt : i < v.length := by ((try simp only [fIs_t, fIs_f, nd_s, bn_s, mm_s] at *); omega)
         refine ⟨(i + 1, s - (if (8 : Int) < s then 8 else s)), ⟨hlt, by dsimp only; omega, by dsimp only; omega, by (try simp only [fIs_t, fIs_f, nd_s, bn_s, mm_s] at *); rw [he, spareF_step hlt, if_pos (by assumption)]⟩, by dsimp only; omega, rfl, rfl⟩)
  · cases e
end Go.Eng
