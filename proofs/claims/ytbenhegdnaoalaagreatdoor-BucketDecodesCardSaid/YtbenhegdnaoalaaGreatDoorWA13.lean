/- Parts of the proof: F2, F4. No condition. -/
import Derived.Test.YtbenhegdnaoalaaGreatDoorProg
import Derived.Test.YtbenhegdnaoalaaGreatDoorWA10
import Derived.KernelRfl
namespace Go.Eng
open Go.Proofs
set_option linter.unusedVariables false
set_option linter.unusedSimpArgs false
set_option maxRecDepth 100000
set_option maxHeartbeats 1000000
def fIs (n : Int) : Bool := decide (0 ≤ n) && decide (n < 40)
theorem fIs_t {n : Int} : fIs n = true ↔ 0 ≤ n ∧ n < 40 := by unfold fIs; simp
theorem fIs_f {n : Int} : fIs n = false ↔ ¬ (0 ≤ n ∧ n < 40) := by rw [← fIs_t]; simp
def ir_field_is : IR :=
(.seq
(.keep [0]
(.reg (oD 2 (.mov cF) ::
[])))
(.seq
(.keep [0]
(.reg (oM 3 0 ::
oD 4 (.bin .geq (.t 3) (cI 0)) ::
oM 5 4 ::
oT 5 6 (.mov (.t 0)) ::
oT 5 7 (.bin .lss (.t 6) (cI 40)) ::
oD 8 (.pick (.t 5) (.t 7) cF) ::
oM 2 8 ::
[])))
.ret))
def rd_field_is : List RD := [.tmp 2 true none]
theorem ok_field_is : fnOk Tryz.prog Tryz.f299 ir_field_is rd_field_is = true := by kernel_rfl
def S_field_is : List AV → List Obj → Option (Prop × AV)
  | [.int .i64 n], [] => some ((True, .bool (fIs n)))
  | _, _ => none
theorem snd_field_is : SoundS Tryz.prog 299 (RoF S_field_is).sum := by
  refine ro_fn Tryz.func299 ok_field_is (env_nil _) fun args objs p v e => ?_
  unfold S_field_is at e
  split at e
  · rename_i n
    cases e
    refine ⟨rfl, fun hw ho hp => ?_⟩
    repeat' (intro t ht; first | (cases t <;> first | (cases ht; done) | ((try simp only [bn_s] at ht); (try simp only [nd_s] at ht))) | (refine ht ?_ ?_ <;> clear ht) | (refine ht.1 ?_ ?_ <;> clear ht) | (refine ht ?_; clear ht))
    all_goals refine ⟨?_, rfl⟩
    all_goals unfold fIs
    all_goals first | (congr 1; simp_all; done) | (congr 1; simp_all; omega)
  · cases e
def bitsL : List Int := [32, 32, 64, 48, 48, 16, 13, 3, 6, 2, 8, 32, 32, 16, 16, 16, 16, 16, 16, 8, 8, 16, 32, 32, 48, 48, 128, 128, 20, 8, 8, 128, 48, 48, 20, 3, 1, 24, 64, 9]
def ir_field_bits : IR :=
(.seq
(.keep [0]
(.reg (oD 2 (.mov (cI 0)) ::
[])))
(.seq
(.reg (oD 4 (.buildAll 40 [(0, 1, (cI 32)), (1, 1, (cI 32)), (2, 1, (cI 64)), (3, 1, (cI 48)), (4, 1, (cI 48)), (5, 1, (cI 16)), (6, 1, (cI 13)), (7, 1, (cI 3)), (8, 1, (cI 6)), (9, 1, (cI 2)), (10, 1, (cI 8)), (11, 1, (cI 32)), (12, 1, (cI 32)), (13, 1, (cI 16)), (14, 1, (cI 16)), (15, 1, (cI 16)), (16, 1, (cI 16)), (17, 1, (cI 16)), (18, 1, (cI 16)), (19, 1, (cI 8)), (20, 1, (cI 8)), (21, 1, (cI 16)), (22, 1, (cI 32)), (23, 1, (cI 32)), (24, 1, (cI 48)), (25, 1, (cI 48)), (26, 1, (cI 128)), (27, 1, (cI 128)), (28, 1, (cI 20)), (29, 1, (cI 8)), (30, 1, (cI 8)), (31, 1, (cI 128)), (32, 1, (cI 48)), (33, 1, (cI 48)), (34, 1, (cI 20)), (35, 1, (cI 3)), (36, 1, (cI 1)), (37, 1, (cI 24)), (38, 1, (cI 64)), (39, 1, (cI 9))]) ::
oD 3 (.box [.int .i64 0, .int .i64 0, .int .i64 0, .int .i64 0, .int .i64 0, .int .i64 0, .int .i64 0, .int .i64 0, .int .i64 0, .int .i64 0, .int .i64 0, .int .i64 0, .int .i64 0, .int .i64 0, .int .i64 0, .int .i64 0, .int .i64 0, .int .i64 0, .int .i64 0, .int .i64 0, .int .i64 0, .int .i64 0, .int .i64 0, .int .i64 0, .int .i64 0, .int .i64 0, .int .i64 0, .int .i64 0, .int .i64 0, .int .i64 0, .int .i64 0, .int .i64 0, .int .i64 0, .int .i64 0, .int .i64 0, .int .i64 0, .int .i64 0, .int .i64 0, .int .i64 0, .int .i64 0]) ::
oN (.store 40 (.t 3) (.t 4)) ::
[]))
(.seq
(.reg (oM 5 0 ::
oD 6 (.indexArr 1 40 (.t 3) (.t 5)) ::
oD 7 (.loadI .i64 (.t 6)) ::
oM 2 7 ::
[]))
.ret)))
def rd_field_bits : List RD := [.tmp 2 true none]
theorem ok_field_bits : fnOk Tryz.prog Tryz.f300 ir_field_bits rd_field_bits = true := by kernel_rfl
def S_field_bits : List AV → List Obj → Option (Prop × AV)
  | [.int .i64 n], [] => some (0 ≤ n ∧ n < 40, .int .i64 (bitsL.getD n.toNat 0))
  | _, _ => none
theorem snd_field_bits : SoundS Tryz.prog 300 (RoF S_field_bits).sum := by
  refine ro_fn Tryz.func300 ok_field_bits (env_nil _) fun args objs p v e => ?_
  unfold S_field_bits at e
  split at e
  · rename_i n
    cases e
    refine ⟨rfl, fun hw _ hp => ?_⟩
    repeat' (intro t ht; first | (cases t <;> first | (cases ht; done) | ((try simp only [bn_s] at ht); (try simp only [nd_s] at ht))) | (refine ht ?_ ?_ <;> clear ht) | (refine ht.1 ?_ ?_ <;> clear ht) | (refine ht ?_; clear ht))
    · exact hp
    · show 0 + n.toNat * 1 < 40; omega
    · exact ⟨by simp [bitsL], rfl⟩
  · cases e
theorem bits_le : ∀ k < 40, 1 ≤ bitsL.getD k 0 ∧ bitsL.getD k 0 ≤ 128 := by decide
def sizeF (n : Int) : Int := if n = 28 ∨ n = 34 then 4 else (bitsL.getD n.toNat 0 + 7) / 8
def ir_field_size : IR :=
(.seq
(.keep [0]
(.reg (oD 2 (.mov (cI 0)) ::
[])))
(.seq
(.seq
(.reg (oM 3 0 ::
[]))
(.block 0
(.seq
(.seq
(.reg (oD 5 (.bin .eql (.t 3) (cI 28)) ::
oM 4 5 ::
[]))
(.cond (.t 4)
.skip
(.reg (oD 6 (.bin .eql (.t 3) (cI 34)) ::
oM 4 6 ::
[]))))
(.cond (.t 4)
(.seq
(.keep []
(.reg (oD 2 (.mov (cI 4)) ::
[])))
.ret)
.skip))))
(.seq
(.keep [0]
(.reg (oM 7 0 ::
oD 8 (.call false (.f 300) [(.t 7)]) ::
oD 9 (.bin .add (.t 8) (cI 8)) ::
oD 10 (.bin .sub (.t 9) (cI 1)) ::
oD 11 (.bin .quo (.t 10) (cI 8)) ::
oM 2 11 ::
[])))
.ret)))
def rd_field_size : List RD := [.tmp 2 true none]
theorem ok_field_size : fnOk Tryz.prog Tryz.f301 ir_field_size rd_field_size = true := by kernel_rfl
def S_field_size : List AV → List Obj → Option (Prop × AV)
  | [.int .i64 n], [] => some (0 ≤ n ∧ n < 40, .int .i64 (sizeF n))
  | _, _ => none
theorem snd_field_size : SoundS Tryz.prog 301 (RoF S_field_size).sum := by
  refine ro_fn Tryz.func301 ok_field_size (env_cons (s := RoF S_field_bits) snd_field_bits (env_nil _)) fun args objs p v e => ?_
  unfold S_field_size at e
  split at e
  · rename_i n
    cases e
    refine ⟨rfl, fun hw _ hp => ?_⟩
    repeat' (intro t ht; first | (cases t <;> first | (cases ht; done) | ((try simp only [bn_s] at ht); (try simp only [nd_s] at ht))) | (refine ht ?_ ?_ <;> clear ht) | (refine ht.1 ?_ ?_ <;> clear ht) | (refine ht ?_; clear ht))
    all_goals have hb := bits_le n.toNat (by omega)
    all_goals generalize hB : bitsL.getD n.toNat 0 = B at *
    all_goals first
      | exact hp
      | exact (by decide)
      | (exfalso; (try simp only [nd_s, bn_s, mm_s] at *); omega)
      | ((try simp only [nd_s, bn_s, mm_s] at *); omega)
      | ((try simp only [nd_s, bn_s, mm_s] at *); rw [tdiv_nn (by omega)]; omega)
      | (refine ⟨?_, rfl⟩; unfold sizeF; rw [tdiv_nn (by omega), hB, if_neg (by (try simp only [nd_s, bn_s, mm_s] at *); omega)]; congr 2; omega)
      | (refine ⟨?_, rfl⟩; unfold sizeF; rw [if_pos (by (try simp only [nd_s, bn_s, mm_s] at *); omega)])
  · cases e
def maskedF (n : Int) : Bool := [2, 3, 4, 6, 11, 12, 37, 38, 39, 22, 23, 24, 25, 26, 27, 28].contains n
def ir_field_masked : IR :=
(.seq
(.keep [0]
(.reg (oD 2 (.mov cF) ::
[])))
(.seq
(.seq
(.reg (oM 3 0 ::
[]))
(.block 0
(.seq
(.block 2
(.block 1
(.seq
(.seq
(.seq
(.seq
(.reg (oD 5 (.bin .eql (.t 3) (cI 2)) ::
oM 4 5 ::
[]))
(.cond (.t 4)
.skip
(.seq
(.reg (oD 6 (.bin .eql (.t 3) (cI 3)) ::
oM 4 6 ::
[]))
(.cond (.t 4)
.skip
(.seq
(.keep [3]
(.reg (oD 7 (.bin .eql (.t 3) (cI 4)) ::
oM 4 7 ::
[])))
(.cond (.t 4)
.skip
(.seq
(.reg (oD 8 (.bin .eql (.t 3) (cI 6)) ::
oM 4 8 ::
[]))
(.cond (.t 4)
.skip
(.seq
(.reg (oD 9 (.bin .eql (.t 3) (cI 11)) ::
oM 4 9 ::
[]))
(.cond (.t 4)
.skip
(.seq
(.keep [3]
(.reg (oD 10 (.bin .eql (.t 3) (cI 12)) ::
oM 4 10 ::
[])))
(.cond (.t 4)
.skip
(.seq
(.reg (oD 11 (.bin .eql (.t 3) (cI 37)) ::
oM 4 11 ::
[]))
(.cond (.t 4)
.skip
(.seq
(.reg (oD 12 (.bin .eql (.t 3) (cI 38)) ::
oM 4 12 ::
[]))
(.cond (.t 4)
.skip
(.keep [3]
(.reg (oD 13 (.bin .eql (.t 3) (cI 39)) ::
oM 4 13 ::
[])))))))))))))))))))
(.cond (.t 4)
(.exit 1)
.skip))
(.seq
(.seq
(.keep [3]
(.reg (oD 15 (.bin .eql (.t 3) (cI 22)) ::
oM 14 15 ::
[])))
(.cond (.t 14)
.skip
(.seq
(.reg (oD 16 (.bin .eql (.t 3) (cI 23)) ::
oM 14 16 ::
[]))
(.cond (.t 14)
.skip
(.seq
(.reg (oD 17 (.bin .eql (.t 3) (cI 24)) ::
oM 14 17 ::
[]))
(.cond (.t 14)
.skip
(.seq
(.keep [3]
(.reg (oD 18 (.bin .eql (.t 3) (cI 25)) ::
oM 14 18 ::
[])))
(.cond (.t 14)
.skip
(.seq
(.reg (oD 19 (.bin .eql (.t 3) (cI 26)) ::
oM 14 19 ::
[]))
(.cond (.t 14)
.skip
(.seq
(.reg (oD 20 (.bin .eql (.t 3) (cI 27)) ::
oM 14 20 ::
[]))
(.cond (.t 14)
.skip
(.keep [3]
(.reg (oD 21 (.bin .eql (.t 3) (cI 28)) ::
oM 14 21 ::
[])))))))))))))))
(.cond (.t 14)
(.exit 2)
.skip)))
(.exit 0))))
(.seq
(.seq
(.keep []
(.reg (oD 2 (.mov cT) ::
[])))
.ret)
(.exit 0)))))
(.seq
(.keep []
(.reg (oD 2 (.mov cF) ::
[])))
.ret)))
def rd_field_masked : List RD := [.tmp 2 true none]
theorem ok_field_masked : fnOk Tryz.prog Tryz.f302 ir_field_masked rd_field_masked = true := by kernel_rfl
def S_field_masked : List AV → List Obj → Option (Prop × AV)
  | [.int .i64 n], [] => some (True, .bool (maskedF n))
  | _, _ => none
theorem snd_field_masked : SoundS Tryz.prog 302 (RoF S_field_masked).sum := by
  refine ro_fn Tryz.func302 ok_field_masked (env_nil _) fun args objs p v e => ?_
  unfold S_field_masked at e
  split at e
  · rename_i n
    cases e
    refine ⟨rfl, fun hw _ hp => ?_⟩
    repeat' (intro t ht; first | (cases t <;> first | (cases ht; done) | ((try simp only [bn_s] at ht); (try simp only [nd_s] at ht))) | (refine ht ?_ ?_ <;> clear ht) | (refine ht.1 ?_ ?_ <;> clear ht) | (refine ht ?_; clear ht))
    all_goals refine ⟨?_, rfl⟩
    all_goals (congr 1; simp_all [maskedF]; done)
  · cases e
def deepF (n : Int) : Int × List Int :=
  if n = 13 ∨ n = 14 then (10, [6]) else if n = 15 ∨ n = 16 then (10, [17]) else if n = 17 ∨ n = 18 then (10, [132]) else if n = 19 ∨ n = 20 then (10, [1])
  else if n = 29 ∨ n = 30 then (10, [58]) else if n = 31 then (29, [135, 136]) else if n = 32 then (29, [135]) else if n = 33 then (29, [136]) else (-1, [])
def ir_field_deep : IR :=
(.seq
(.keep [0]
(.reg (oD 2 (.mov (cI 0)) ::
oD 3 (.mov (.c (.imm (.int .u64) []))) ::
[])))
(.seq
(.seq
(.reg (oM 4 0 ::
[]))
(.block 0
(.seq
(.seq
(.reg (oD 6 (.bin .eql (.t 4) (cI 13)) ::
oM 5 6 ::
[]))
(.cond (.t 5)
.skip
(.reg (oD 7 (.bin .eql (.t 4) (cI 14)) ::
oM 5 7 ::
[]))))
(.cond (.t 5)
(.seq
(.keep []
(.reg (oD 8 (.sliceAll (.int .u64) 1 [(0, 1, (.c (.int .u64 6)))]) ::
oD 2 (.mov (cI 10)) ::
oM 3 8 ::
[])))
.ret)
(.seq
(.seq
(.keep [0, 4]
(.reg (oD 10 (.bin .eql (.t 4) (cI 15)) ::
oM 9 10 ::
[])))
(.cond (.t 9)
.skip
(.reg (oD 11 (.bin .eql (.t 4) (cI 16)) ::
oM 9 11 ::
[]))))
(.cond (.t 9)
(.seq
(.reg (oD 12 (.sliceAll (.int .u64) 1 [(0, 1, (.c (.int .u64 17)))]) ::
oD 2 (.mov (cI 10)) ::
oM 3 12 ::
[]))
.ret)
(.seq
(.seq
(.reg (oD 14 (.bin .eql (.t 4) (cI 17)) ::
oM 13 14 ::
[]))
(.cond (.t 13)
.skip
(.keep [0, 4]
(.reg (oD 15 (.bin .eql (.t 4) (cI 18)) ::
oM 13 15 ::
[])))))
(.cond (.t 13)
(.seq
(.keep []
(.reg (oD 16 (.sliceAll (.int .u64) 1 [(0, 1, (.c (.int .u64 132)))]) ::
oD 2 (.mov (cI 10)) ::
oM 3 16 ::
[])))
.ret)
(.seq
(.seq
(.keep [0, 4]
(.reg (oD 18 (.bin .eql (.t 4) (cI 19)) ::
oM 17 18 ::
[])))
(.cond (.t 17)
.skip
(.reg (oD 19 (.bin .eql (.t 4) (cI 20)) ::
oM 17 19 ::
[]))))
(.cond (.t 17)
(.seq
(.reg (oD 20 (.sliceAll (.int .u64) 1 [(0, 1, (.c (.int .u64 1)))]) ::
oD 2 (.mov (cI 10)) ::
oM 3 20 ::
[]))
.ret)
(.seq
(.seq
(.reg (oD 22 (.bin .eql (.t 4) (cI 29)) ::
oM 21 22 ::
[]))
(.cond (.t 21)
.skip
(.keep [0, 4]
(.reg (oD 23 (.bin .eql (.t 4) (cI 30)) ::
oM 21 23 ::
[])))))
(.cond (.t 21)
(.seq
(.keep []
(.reg (oD 24 (.sliceAll (.int .u64) 1 [(0, 1, (.c (.int .u64 58)))]) ::
oD 2 (.mov (cI 10)) ::
oM 3 24 ::
[])))
.ret)
(.seq
(.keep [0, 4]
(.reg (oD 26 (.bin .eql (.t 4) (cI 31)) ::
oM 25 26 ::
[])))
(.cond (.t 25)
(.seq
(.reg (oD 27 (.sliceAll (.int .u64) 2 [(0, 1, (.c (.int .u64 135))), (1, 1, (.c (.int .u64 136)))]) ::
oD 2 (.mov (cI 29)) ::
oM 3 27 ::
[]))
.ret)
(.seq
(.seq
(.reg (oD 29 (.bin .eql (.t 4) (cI 32)) ::
oM 28 29 ::
[]))
(.cond (.t 28)
.skip
(.reg (oD 30 (.bin .eql (.t 4) (cI 33)) ::
oM 28 30 ::
[]))))
(.cond (.t 28)
(.seq
(.keep [0]
(.reg (oM 31 0 ::
oD 32 (.conv .u64 (.t 31)) ::
oD 33 (.bin .add (.t 32) (.c (.int .u64 103))) ::
oD 34 (.sliceAll (.int .u64) 1 [(0, 1, (.t 33))]) ::
oD 2 (.mov (cI 29)) ::
oM 3 34 ::
[])))
.ret)
.skip))))))))))))))))
(.seq
(.keep []
(.reg (oD 2 (.mov (cI (-1))) ::
oD 3 (.mov (.c (.imm (.int .u64) []))) ::
[])))
.ret)))
def rd_field_deep : List RD := [.tmp 2 true none, .tmp 3 true (some (.int .u64))]
theorem ok_field_deep : fnOk Tryz.prog Tryz.f309 ir_field_deep rd_field_deep = true := by kernel_rfl
def S_field_deep : List AV → List Obj → Option (Prop × AV)
  | [.int .i64 n], [] => some (True, .tup [.int .i64 (deepF n).1, .imm (.int .u64) (deepF n).2])
  | _, _ => none
theorem snd_field_deep : SoundS Tryz.prog 309 (RoF S_field_deep).sum := by
  refine ro_fn Tryz.func309 ok_field_deep (env_nil _) fun args objs p v e => ?_
  unfold S_field_deep at e
  split at e
  · rename_i n
    cases e
    refine ⟨rfl, fun hw _ hp => ?_⟩
    repeat' (intro t ht; first | (cases t <;> first | (cases ht; done) | ((try simp only [bn_s] at ht); (try simp only [nd_s] at ht))) | (refine ht ?_ ?_ <;> clear ht) | (refine ht.1 ?_ ?_ <;> clear ht) | (refine ht ?_; clear ht))
    all_goals first
      | (exfalso; (try simp only [nd_s, bn_s, mm_s] at *); omega)
      | (refine ⟨?_, rfl⟩; simp_all [deepF]; done)
      | ((try simp only [nd_s, bn_s, mm_s] at *); omega)
      | ((try simp only [nd_s, bn_s, mm_s] at *); subst_vars; exact ⟨rfl, rfl⟩)
      | ((try simp only [nd_s, bn_s, mm_s] at *); have hn : n = 32 ∨ n = 33 := by omega
         rcases hn with rfl | rfl <;> exact ⟨rfl, rfl⟩)
      | trace_state
  · cases e
def needF (n : Int) : Int × List Int :=
  if n = 1 then (0, []) else if n = 7 then (6, []) else if n = 8 ∨ n = 9 ∨ n = 10 then (5, [2048, 34525]) else if n = 11 ∨ n = 12 then (5, [2048])
  else if n = 21 ∨ n = 22 ∨ n = 23 ∨ n = 24 ∨ n = 25 then (5, [2054]) else if n = 26 ∨ n = 27 ∨ n = 28 ∨ n = 39 then (5, [34525])
  else if n = 34 ∨ n = 35 ∨ n = 36 then (5, [34887, 34888]) else if n = 37 then (5, [35047]) else deepF n
def ir_field_need : IR :=
(.seq
(.keep [0]
(.reg (oD 2 (.mov (cI 0)) ::
oD 3 (.mov (.c (.imm (.int .u64) []))) ::
[])))
(.seq
(.seq
(.reg (oM 4 0 ::
[]))
(.block 0
(.seq
(.reg (oD 6 (.bin .eql (.t 4) (cI 1)) ::
oM 5 6 ::
[]))
(.cond (.t 5)
(.seq
(.reg (oD 2 (.mov (cI 0)) ::
oD 3 (.mov (.c (.imm (.int .u64) []))) ::
[]))
.ret)
(.seq
(.reg (oD 8 (.bin .eql (.t 4) (cI 7)) ::
oM 7 8 ::
[]))
(.cond (.t 7)
(.seq
(.keep []
(.reg (oD 2 (.mov (cI 6)) ::
oD 3 (.mov (.c (.imm (.int .u64) []))) ::
[])))
.ret)
(.seq
(.seq
(.keep [0, 4]
(.reg (oD 10 (.bin .eql (.t 4) (cI 8)) ::
oM 9 10 ::
[])))
(.cond (.t 9)
.skip
(.seq
(.reg (oD 11 (.bin .eql (.t 4) (cI 9)) ::
oM 9 11 ::
[]))
(.cond (.t 9)
.skip
(.reg (oD 12 (.bin .eql (.t 4) (cI 10)) ::
oM 9 12 ::
[]))))))
(.cond (.t 9)
(.seq
(.keep []
(.reg (oD 13 (.sliceAll (.int .u64) 2 [(0, 1, (.c (.int .u64 2048))), (1, 1, (.c (.int .u64 34525)))]) ::
oD 2 (.mov (cI 5)) ::
oM 3 13 ::
[])))
.ret)
(.seq
(.seq
(.keep [0, 4]
(.reg (oD 15 (.bin .eql (.t 4) (cI 11)) ::
oM 14 15 ::
[])))
(.cond (.t 14)
.skip
(.reg (oD 16 (.bin .eql (.t 4) (cI 12)) ::
oM 14 16 ::
[]))))
(.cond (.t 14)
(.seq
(.reg (oD 17 (.sliceAll (.int .u64) 1 [(0, 1, (.c (.int .u64 2048)))]) ::
oD 2 (.mov (cI 5)) ::
oM 3 17 ::
[]))
.ret)
(.seq
(.seq
(.reg (oD 19 (.bin .eql (.t 4) (cI 21)) ::
oM 18 19 ::
[]))
(.cond (.t 18)
.skip
(.seq
(.keep [0, 4]
(.reg (oD 20 (.bin .eql (.t 4) (cI 22)) ::
oM 18 20 ::
[])))
(.cond (.t 18)
.skip
(.seq
(.reg (oD 21 (.bin .eql (.t 4) (cI 23)) ::
oM 18 21 ::
[]))
(.cond (.t 18)
.skip
(.seq
(.reg (oD 22 (.bin .eql (.t 4) (cI 24)) ::
oM 18 22 ::
[]))
(.cond (.t 18)
.skip
(.keep [0, 4]
(.reg (oD 23 (.bin .eql (.t 4) (cI 25)) ::
oM 18 23 ::
[])))))))))))
(.cond (.t 18)
(.seq
(.keep []
(.reg (oD 24 (.sliceAll (.int .u64) 1 [(0, 1, (.c (.int .u64 2054)))]) ::
oD 2 (.mov (cI 5)) ::
oM 3 24 ::
[])))
.ret)
(.seq
(.seq
(.keep [0, 4]
(.reg (oD 26 (.bin .eql (.t 4) (cI 26)) ::
oM 25 26 ::
[])))
(.cond (.t 25)
.skip
(.seq
(.reg (oD 27 (.bin .eql (.t 4) (cI 27)) ::
oM 25 27 ::
[]))
(.cond (.t 25)
.skip
(.seq
(.reg (oD 28 (.bin .eql (.t 4) (cI 28)) ::
oM 25 28 ::
[]))
(.cond (.t 25)
.skip
(.keep [0, 4]
(.reg (oD 29 (.bin .eql (.t 4) (cI 39)) ::
oM 25 29 ::
[])))))))))
(.cond (.t 25)
(.seq
(.keep []
(.reg (oD 30 (.sliceAll (.int .u64) 1 [(0, 1, (.c (.int .u64 34525)))]) ::
oD 2 (.mov (cI 5)) ::
oM 3 30 ::
[])))
.ret)
(.seq
(.seq
(.keep [0, 4]
(.reg (oD 32 (.bin .eql (.t 4) (cI 34)) ::
oM 31 32 ::
[])))
(.cond (.t 31)
.skip
(.seq
(.reg (oD 33 (.bin .eql (.t 4) (cI 35)) ::
oM 31 33 ::
[]))
(.cond (.t 31)
.skip
(.reg (oD 34 (.bin .eql (.t 4) (cI 36)) ::
oM 31 34 ::
[]))))))
(.cond (.t 31)
(.seq
(.keep []
(.reg (oD 35 (.sliceAll (.int .u64) 2 [(0, 1, (.c (.int .u64 34887))), (1, 1, (.c (.int .u64 34888)))]) ::
oD 2 (.mov (cI 5)) ::
oM 3 35 ::
[])))
.ret)
(.seq
(.keep [0, 4]
(.reg (oD 37 (.bin .eql (.t 4) (cI 37)) ::
oM 36 37 ::
[])))
(.cond (.t 36)
(.seq
(.reg (oD 38 (.sliceAll (.int .u64) 1 [(0, 1, (.c (.int .u64 35047)))]) ::
oD 2 (.mov (cI 5)) ::
oM 3 38 ::
[]))
.ret)
.skip))))))))))))))))))
(.seq
(.keep [0]
(.reg (oM 39 0 ::
oD 40 (.call false (.f 309) [(.t 39)]) ::
oD 41 (.extract (.t 40) 0) ::
oD 42 (.extract (.t 40) 1) ::
oM 2 41 ::
oM 3 42 ::
[])))
.ret)))
def rd_field_need : List RD := [.tmp 2 true none, .tmp 3 true (some (.int .u64))]
theorem ok_field_need : fnOk Tryz.prog Tryz.f303 ir_field_need rd_field_need = true := by kernel_rfl
def S_field_need : List AV → List Obj → Option (Prop × AV)
  | [.int .i64 n], [] => some (True, .tup [.int .i64 (needF n).1, .imm (.int .u64) (needF n).2])
  | _, _ => none
theorem snd_field_need : SoundS Tryz.prog 303 (RoF S_field_need).sum := by
  refine ro_fn Tryz.func303 ok_field_need (env_cons (s := RoF S_field_deep) snd_field_deep (env_nil _)) fun args objs p v e => ?_
  unfold S_field_need at e
  split at e
  · rename_i n
    cases e
    refine ⟨rfl, fun hw _ hp => ?_⟩
    repeat' (intro t ht; first | (cases t <;> first | (cases ht; done) | ((try simp only [bn_s] at ht); (try simp only [nd_s] at ht))) | (refine ht ?_ ?_ <;> clear ht) | (refine ht.1 ?_ ?_ <;> clear ht) | (refine ht ?_; clear ht))
    all_goals first
      | trivial
      | (exfalso; (try simp only [nd_s, bn_s, mm_s] at *); omega)
      | (refine ⟨?_, rfl⟩; simp_all [needF]; done)
      | ((try simp only [nd_s, bn_s, mm_s] at *); subst_vars; exact ⟨rfl, rfl⟩)
      | trace_state
  · cases e
def namesL : List (List Int) := [[105, 110, 95, 112, 111, 114, 116], [105, 110, 95, 112, 104, 121, 95, 112, 111, 114, 116], [109, 101, 116, 97, 100, 97, 116, 97], [101, 116, 104, 95, 100, 115, 116], [101, 116, 104, 95, 115, 114, 99], [101, 116, 104, 95, 116, 121, 112, 101], [118, 108, 97, 110, 95, 118, 105, 100], [118, 108, 97, 110, 95, 112, 99, 112], [105, 112, 95, 100, 115, 99, 112], [105, 112, 95, 101, 99, 110], [105, 112, 95, 112, 114, 111, 116, 111], [105, 112, 118, 52, 95, 115, 114, 99], [105, 112, 118, 52, 95, 100, 115, 116], [116, 99, 112, 95, 115, 114, 99], [116, 99, 112, 95, 100, 115, 116], [117, 100, 112, 95, 115, 114, 99], [117, 100, 112, 95, 100, 115, 116], [115, 99, 116, 112, 95, 115, 114, 99], [115, 99, 116, 112, 95, 100, 115, 116], [105, 99, 109, 112, 118, 52, 95, 116, 121, 112, 101], [105, 99, 109, 112, 118, 52, 95, 99, 111, 100, 101], [97, 114, 112, 95, 111, 112], [97, 114, 112, 95, 115, 112, 97], [97, 114, 112, 95, 116, 112, 97], [97, 114, 112, 95, 115, 104, 97], [97, 114, 112, 95, 116, 104, 97], [105, 112, 118, 54, 95, 115, 114, 99], [105, 112, 118, 54, 95, 100, 115, 116], [105, 112, 118, 54, 95, 102, 108, 97, 98, 101, 108], [105, 99, 109, 112, 118, 54, 95, 116, 121, 112, 101], [105, 99, 109, 112, 118, 54, 95, 99, 111, 100, 101], [105, 112, 118, 54, 95, 110, 100, 95, 116, 97, 114, 103, 101, 116], [105, 112, 118, 54, 95, 110, 100, 95, 115, 108, 108], [105, 112, 118, 54, 95, 110, 100, 95, 116, 108, 108], [109, 112, 108, 115, 95, 108, 97, 98, 101, 108], [109, 112, 108, 115, 95, 116, 99], [109, 112, 108, 115, 95, 98, 111, 115], [112, 98, 98, 95, 105, 115, 105, 100], [116, 117, 110, 110, 101, 108, 95, 105, 100], [105, 112, 118, 54, 95, 101, 120, 116, 104, 100, 114]]
def settF (n : Int) : Bool := decide (2 < n) && decide (n < 39)
def ir_field_Settable : IR :=
(.seq
(.keep [0]
(.reg (oD 2 (.mov cF) ::
[])))
(.seq
(.keep [0]
(.reg (oM 3 0 ::
oD 4 (.call false (.f 299) [(.t 3)]) ::
oM 5 4 ::
oT 5 6 (.mov (.t 0)) ::
oT 5 7 (.bin .gtr (.t 6) (cI 2)) ::
oD 8 (.pick (.t 5) (.t 7) cF) ::
oM 9 8 ::
oT 9 10 (.mov (.t 0)) ::
oT 9 11 (.bin .neq (.t 10) (cI 39)) ::
oD 12 (.pick (.t 9) (.t 11) cF) ::
oM 2 12 ::
[])))
.ret))
def rd_field_Settable : List RD := [.tmp 2 true none]
theorem ok_field_Settable : fnOk Tryz.prog Tryz.f286 ir_field_Settable rd_field_Settable = true := by kernel_rfl
def S_field_Settable : List AV → List Obj → Option (Prop × AV)
  | [.int .i64 n], [] => some ((True, .bool (settF n)))
  | _, _ => none
theorem snd_field_Settable : SoundS Tryz.prog 286 (RoF S_field_Settable).sum := by
  refine ro_fn Tryz.func286 ok_field_Settable (env_cons (s := RoF S_field_is) snd_field_is (env_nil _)) fun args objs p v e => ?_
  unfold S_field_Settable at e
  split at e
  · rename_i n
    cases e
    refine ⟨rfl, fun hw ho hp => ?_⟩
    repeat' (intro t ht; first | (cases t <;> first | (cases ht; done) | ((try simp only [bn_s] at ht); (try simp only [nd_s] at ht))) | (refine ht ?_ ?_ <;> clear ht) | (refine ht.1 ?_ ?_ <;> clear ht) | (refine ht ?_; clear ht))
    all_goals first
      | trivial
      | (refine ⟨?_, rfl⟩; unfold settF; congr 1; rw [Bool.eq_iff_iff]; first | (have h := fIs_t.1 (by assumption); simp at *; omega) | (have h := fIs_f.1 (by assumption); simp at *; omega) | (simp at *; omega))
  · cases e
def fBits (n : Int) : Int := if fIs n then bitsL.getD n.toNat 0 else 0
def fSize (n : Int) : Int := if fIs n then sizeF n else 0
def fMask (n : Int) : Bool := if fIs n then maskedF n else false
def fNeed (n : Int) : Int := if fIs n then (needF n).1 else 0
def fVals (n : Int) : List Int := if fIs n then (needF n).2 else []
abbrev ofF (n : Int) : AV := .tup [.agg [.int .i64 (fBits n), .int .i64 (fSize n), .bool (fMask n), .int .i64 (fNeed n), .imm (.int .u64) (fVals n)], .bool (fIs n)]
def ir_field_Of : IR :=
(.seq
(.keep [0]
(.reg (oD 2 (.box [.int .i64 0, .int .i64 0, .kb false, .int .i64 0, .imm (.int .u64) []]) ::
oD 3 (.mov cF) ::
[])))
(.seq
(.seq
(.reg (oM 5 0 ::
oD 6 (.call false (.f 299) [(.t 5)]) ::
oD 7 (.un .not (.t 6)) ::
[]))
(.cond (.t 7)
(.seq
(.reg (oD 8 (.build [.int .i64 0, .int .i64 0, .kb false, .int .i64 0, .imm (.int .u64) []] []) ::
oN (.store 5 (.t 2) (.t 8)) ::
oD 3 (.mov cF) ::
[]))
.ret)
.skip))
(.seq
(.keep [0, 2]
(.reg (oM 9 0 ::
oD 10 (.call false (.f 300) [(.t 9)]) ::
oM 11 0 ::
oD 12 (.call false (.f 301) [(.t 11)]) ::
oM 13 0 ::
oD 14 (.call false (.f 302) [(.t 13)]) ::
oD 15 (.build [.int .i64 0, .int .i64 0, .kb false, .int .i64 0, .imm (.int .u64) []] [(0, 1, (.t 10)), (1, 1, (.t 12)), (2, 1, (.t 14))]) ::
oD 4 (.box [.int .i64 0, .int .i64 0, .kb false, .int .i64 0, .imm (.int .u64) []]) ::
oN (.store 5 (.t 4) (.t 15)) ::
[])))
(.seq
(.keep [0, 2, 4]
(.reg (oM 17 0 ::
oD 18 (.call false (.f 303) [(.t 17)]) ::
oM 16 18 ::
oD 19 (.extract (.t 16) 0) ::
oD 20 (.extract (.t 16) 1) ::
oD 21 (.fieldAddr 3 (.t 4)) ::
oN (.store 1 (.t 21) (.t 19)) ::
oD 22 (.fieldAddr 4 (.t 4)) ::
oN (.store 1 (.t 22) (.t 20)) ::
[])))
(.seq
(.keep [2, 4]
(.reg (oD 23 (.load (some 5) (.t 4)) ::
oN (.store 5 (.t 2) (.t 23)) ::
oD 3 (.mov cT) ::
[])))
.ret)))))
def rd_field_Of : List RD := [.cell 2 (some 5) true [], .tmp 3 true none]
theorem ok_field_Of : fnOk Tryz.prog Tryz.f287 ir_field_Of rd_field_Of = true := by kernel_rfl
def S_field_Of : List AV → List Obj → Option (Prop × AV)
  | [.int .i64 n], [] => some ((True, ofF n))
  | _, _ => none
theorem snd_field_Of : SoundS Tryz.prog 287 (RoF S_field_Of).sum := by
  refine ro_fn Tryz.func287 ok_field_Of (env_cons (s := RoF S_field_is) snd_field_is (env_cons (s := RoF S_field_bits) snd_field_bits (env_cons (s := RoF S_field_size) snd_field_size (env_cons (s := RoF S_field_masked) snd_field_masked (env_cons (s := RoF S_field_need) snd_field_need (env_nil _)))))) fun args objs p v e => ?_
  unfold S_field_Of at e
  split at e
  · rename_i n
    cases e
    refine ⟨rfl, fun hw ho hp => ?_⟩
    repeat' (intro t ht; first | (cases t <;> first | (cases ht; done) | ((try simp only [bn_s] at ht); (try simp only [nd_s] at ht))) | (refine ht ?_ ?_ <;> clear ht) | (refine ht.1 ?_ ?_ <;> clear ht) | (refine ht ?_; clear ht))
    all_goals try (try simp only [nd_s, bn_s, mm_s] at *)
    all_goals first
      | exact fIs_t.1 (by assumption)
      | (simp_all [ofF, fBits, fSize, fMask, fNeed, fVals]; done)
  · cases e
def idxF : List (List Int) → List Int → Nat → Int
  | [], _, _ => -1
  | a :: r, s, k => if s = a then k else idxF r s (k + 1)
def findN (s : List Int) : Int := if 0 > idxF namesL s 0 then 0 else idxF namesL s 0
def findB (s : List Int) : Bool := decide (0 ≤ idxF namesL s 0)
abbrev fieldT : Ty := (.cons .str (.cons (.int .i64) (.cons (.int .i64) (.cons .bool (.cons (.int .i64) (.cons (.sl (.int .u64)) .nil))))))
def tab : List fieldT.den := [([105, 110, 95, 112, 111, 114, 116], 32, 4, false, -1, [], ()),
  ([105, 110, 95, 112, 104, 121, 95, 112, 111, 114, 116], 32, 4, false, 0, [], ()),
  ([109, 101, 116, 97, 100, 97, 116, 97], 64, 8, true, -1, [], ()),
  ([101, 116, 104, 95, 100, 115, 116], 48, 6, true, -1, [], ()),
  ([101, 116, 104, 95, 115, 114, 99], 48, 6, true, -1, [], ()),
  ([101, 116, 104, 95, 116, 121, 112, 101], 16, 2, false, -1, [], ()),
  ([118, 108, 97, 110, 95, 118, 105, 100], 13, 2, true, -1, [], ()),
  ([118, 108, 97, 110, 95, 112, 99, 112], 3, 1, false, 6, [], ()),
  ([105, 112, 95, 100, 115, 99, 112], 6, 1, false, 5, [2048, 34525], ()),
  ([105, 112, 95, 101, 99, 110], 2, 1, false, 5, [2048, 34525], ()),
  ([105, 112, 95, 112, 114, 111, 116, 111], 8, 1, false, 5, [2048, 34525], ()),
  ([105, 112, 118, 52, 95, 115, 114, 99], 32, 4, true, 5, [2048], ()),
  ([105, 112, 118, 52, 95, 100, 115, 116], 32, 4, true, 5, [2048], ()),
  ([116, 99, 112, 95, 115, 114, 99], 16, 2, false, 10, [6], ()),
  ([116, 99, 112, 95, 100, 115, 116], 16, 2, false, 10, [6], ()),
  ([117, 100, 112, 95, 115, 114, 99], 16, 2, false, 10, [17], ()),
  ([117, 100, 112, 95, 100, 115, 116], 16, 2, false, 10, [17], ()),
  ([115, 99, 116, 112, 95, 115, 114, 99], 16, 2, false, 10, [132], ()),
  ([115, 99, 116, 112, 95, 100, 115, 116], 16, 2, false, 10, [132], ()),
  ([105, 99, 109, 112, 118, 52, 95, 116, 121, 112, 101], 8, 1, false, 10, [1], ()),
  ([105, 99, 109, 112, 118, 52, 95, 99, 111, 100, 101], 8, 1, false, 10, [1], ()),
  ([97, 114, 112, 95, 111, 112], 16, 2, false, 5, [2054], ()),
  ([97, 114, 112, 95, 115, 112, 97], 32, 4, true, 5, [2054], ()),
  ([97, 114, 112, 95, 116, 112, 97], 32, 4, true, 5, [2054], ()),
  ([97, 114, 112, 95, 115, 104, 97], 48, 6, true, 5, [2054], ()),
  ([97, 114, 112, 95, 116, 104, 97], 48, 6, true, 5, [2054], ()),
  ([105, 112, 118, 54, 95, 115, 114, 99], 128, 16, true, 5, [34525], ()),
  ([105, 112, 118, 54, 95, 100, 115, 116], 128, 16, true, 5, [34525], ()),
  ([105, 112, 118, 54, 95, 102, 108, 97, 98, 101, 108], 20, 4, true, 5, [34525], ()),
  ([105, 99, 109, 112, 118, 54, 95, 116, 121, 112, 101], 8, 1, false, 10, [58], ()),
  ([105, 99, 109, 112, 118, 54, 95, 99, 111, 100, 101], 8, 1, false, 10, [58], ()),
  ([105, 112, 118, 54, 95, 110, 100, 95, 116, 97, 114, 103, 101, 116], 128, 16, false, 29, [135, 136], ()),
  ([105, 112, 118, 54, 95, 110, 100, 95, 115, 108, 108], 48, 6, false, 29, [135], ()),
  ([105, 112, 118, 54, 95, 110, 100, 95, 116, 108, 108], 48, 6, false, 29, [136], ()),
  ([109, 112, 108, 115, 95, 108, 97, 98, 101, 108], 20, 4, false, 5, [34887, 34888], ()),
  ([109, 112, 108, 115, 95, 116, 99], 3, 1, false, 5, [34887, 34888], ()),
  ([109, 112, 108, 115, 95, 98, 111, 115], 1, 1, false, 5, [34887, 34888], ()),
  ([112, 98, 98, 95, 105, 115, 105, 100], 24, 3, true, 5, [35047], ()),
  ([116, 117, 110, 110, 101, 108, 95, 105, 100], 64, 8, true, -1, [], ()),
  ([105, 112, 118, 54, 95, 101, 120, 116, 104, 100, 114], 9, 2, true, 5, [34525], ())]
def ir_r07_All : IR :=
(.seq
(.keep []
(.reg (oD 0 (.mov (.c (.imm (.cons .str (.cons (.int .i64) (.cons (.int .i64) (.cons .bool (.cons (.int .i64) (.cons (.sl (.int .u64)) .nil)))))) []))) ::
[])))
(.seq
(.keep []
(.reg (oD 1 (.buildAll 6 [(0, 1, (.c (.str [105, 110, 95, 112, 111, 114, 116]))), (1, 1, (cI 32)), (2, 1, (cI 4)), (3, 1, cF), (4, 1, (cI (-1))), (5, 1, (.c (.imm (.int .u64) [])))]) ::
oD 2 (.buildAll 6 [(0, 1, (.c (.str [105, 110, 95, 112, 104, 121, 95, 112, 111, 114, 116]))), (1, 1, (cI 32)), (2, 1, (cI 4)), (3, 1, cF), (4, 1, (cI 0)), (5, 1, (.c (.imm (.int .u64) [])))]) ::
oD 3 (.buildAll 6 [(0, 1, (.c (.str [109, 101, 116, 97, 100, 97, 116, 97]))), (1, 1, (cI 64)), (2, 1, (cI 8)), (3, 1, cT), (4, 1, (cI (-1))), (5, 1, (.c (.imm (.int .u64) [])))]) ::
oD 4 (.buildAll 6 [(0, 1, (.c (.str [101, 116, 104, 95, 100, 115, 116]))), (1, 1, (cI 48)), (2, 1, (cI 6)), (3, 1, cT), (4, 1, (cI (-1))), (5, 1, (.c (.imm (.int .u64) [])))]) ::
oD 5 (.buildAll 6 [(0, 1, (.c (.str [101, 116, 104, 95, 115, 114, 99]))), (1, 1, (cI 48)), (2, 1, (cI 6)), (3, 1, cT), (4, 1, (cI (-1))), (5, 1, (.c (.imm (.int .u64) [])))]) ::
oD 6 (.buildAll 6 [(0, 1, (.c (.str [101, 116, 104, 95, 116, 121, 112, 101]))), (1, 1, (cI 16)), (2, 1, (cI 2)), (3, 1, cF), (4, 1, (cI (-1))), (5, 1, (.c (.imm (.int .u64) [])))]) ::
oD 7 (.buildAll 6 [(0, 1, (.c (.str [118, 108, 97, 110, 95, 118, 105, 100]))), (1, 1, (cI 13)), (2, 1, (cI 2)), (3, 1, cT), (4, 1, (cI (-1))), (5, 1, (.c (.imm (.int .u64) [])))]) ::
oD 8 (.buildAll 6 [(0, 1, (.c (.str [118, 108, 97, 110, 95, 112, 99, 112]))), (1, 1, (cI 3)), (2, 1, (cI 1)), (3, 1, cF), (4, 1, (cI 6)), (5, 1, (.c (.imm (.int .u64) [])))]) ::
oD 9 (.sliceAll (.int .u64) 2 [(0, 1, (.c (.int .u64 2048))), (1, 1, (.c (.int .u64 34525)))]) ::
oD 10 (.buildAll 6 [(0, 1, (.c (.str [105, 112, 95, 100, 115, 99, 112]))), (1, 1, (cI 6)), (2, 1, (cI 1)), (3, 1, cF), (4, 1, (cI 5)), (5, 1, (.t 9))]) ::
oD 11 (.sliceAll (.int .u64) 2 [(0, 1, (.c (.int .u64 2048))), (1, 1, (.c (.int .u64 34525)))]) ::
oD 12 (.buildAll 6 [(0, 1, (.c (.str [105, 112, 95, 101, 99, 110]))), (1, 1, (cI 2)), (2, 1, (cI 1)), (3, 1, cF), (4, 1, (cI 5)), (5, 1, (.t 11))]) ::
oD 13 (.sliceAll (.int .u64) 2 [(0, 1, (.c (.int .u64 2048))), (1, 1, (.c (.int .u64 34525)))]) ::
oD 14 (.buildAll 6 [(0, 1, (.c (.str [105, 112, 95, 112, 114, 111, 116, 111]))), (1, 1, (cI 8)), (2, 1, (cI 1)), (3, 1, cF), (4, 1, (cI 5)), (5, 1, (.t 13))]) ::
oD 15 (.sliceAll (.int .u64) 1 [(0, 1, (.c (.int .u64 2048)))]) ::
oD 16 (.buildAll 6 [(0, 1, (.c (.str [105, 112, 118, 52, 95, 115, 114, 99]))), (1, 1, (cI 32)), (2, 1, (cI 4)), (3, 1, cT), (4, 1, (cI 5)), (5, 1, (.t 15))]) ::
oD 17 (.sliceAll (.int .u64) 1 [(0, 1, (.c (.int .u64 2048)))]) ::
oD 18 (.buildAll 6 [(0, 1, (.c (.str [105, 112, 118, 52, 95, 100, 115, 116]))), (1, 1, (cI 32)), (2, 1, (cI 4)), (3, 1, cT), (4, 1, (cI 5)), (5, 1, (.t 17))]) ::
oD 19 (.sliceAll (.int .u64) 1 [(0, 1, (.c (.int .u64 6)))]) ::
oD 20 (.buildAll 6 [(0, 1, (.c (.str [116, 99, 112, 95, 115, 114, 99]))), (1, 1, (cI 16)), (2, 1, (cI 2)), (3, 1, cF), (4, 1, (cI 10)), (5, 1, (.t 19))]) ::
oD 21 (.sliceAll (.int .u64) 1 [(0, 1, (.c (.int .u64 6)))]) ::
oD 22 (.buildAll 6 [(0, 1, (.c (.str [116, 99, 112, 95, 100, 115, 116]))), (1, 1, (cI 16)), (2, 1, (cI 2)), (3, 1, cF), (4, 1, (cI 10)), (5, 1, (.t 21))]) ::
oD 23 (.sliceAll (.int .u64) 1 [(0, 1, (.c (.int .u64 17)))]) ::
oD 24 (.buildAll 6 [(0, 1, (.c (.str [117, 100, 112, 95, 115, 114, 99]))), (1, 1, (cI 16)), (2, 1, (cI 2)), (3, 1, cF), (4, 1, (cI 10)), (5, 1, (.t 23))]) ::
oD 25 (.sliceAll (.int .u64) 1 [(0, 1, (.c (.int .u64 17)))]) ::
oD 26 (.buildAll 6 [(0, 1, (.c (.str [117, 100, 112, 95, 100, 115, 116]))), (1, 1, (cI 16)), (2, 1, (cI 2)), (3, 1, cF), (4, 1, (cI 10)), (5, 1, (.t 25))]) ::
oD 27 (.sliceAll (.int .u64) 1 [(0, 1, (.c (.int .u64 132)))]) ::
oD 28 (.buildAll 6 [(0, 1, (.c (.str [115, 99, 116, 112, 95, 115, 114, 99]))), (1, 1, (cI 16)), (2, 1, (cI 2)), (3, 1, cF), (4, 1, (cI 10)), (5, 1, (.t 27))]) ::
oD 29 (.sliceAll (.int .u64) 1 [(0, 1, (.c (.int .u64 132)))]) ::
oD 30 (.buildAll 6 [(0, 1, (.c (.str [115, 99, 116, 112, 95, 100, 115, 116]))), (1, 1, (cI 16)), (2, 1, (cI 2)), (3, 1, cF), (4, 1, (cI 10)), (5, 1, (.t 29))]) ::
oD 31 (.sliceAll (.int .u64) 1 [(0, 1, (.c (.int .u64 1)))]) ::
oD 32 (.buildAll 6 [(0, 1, (.c (.str [105, 99, 109, 112, 118, 52, 95, 116, 121, 112, 101]))), (1, 1, (cI 8)), (2, 1, (cI 1)), (3, 1, cF), (4, 1, (cI 10)), (5, 1, (.t 31))]) ::
oD 33 (.sliceAll (.int .u64) 1 [(0, 1, (.c (.int .u64 1)))]) ::
oD 34 (.buildAll 6 [(0, 1, (.c (.str [105, 99, 109, 112, 118, 52, 95, 99, 111, 100, 101]))), (1, 1, (cI 8)), (2, 1, (cI 1)), (3, 1, cF), (4, 1, (cI 10)), (5, 1, (.t 33))]) ::
oD 35 (.sliceAll (.int .u64) 1 [(0, 1, (.c (.int .u64 2054)))]) ::
oD 36 (.buildAll 6 [(0, 1, (.c (.str [97, 114, 112, 95, 111, 112]))), (1, 1, (cI 16)), (2, 1, (cI 2)), (3, 1, cF), (4, 1, (cI 5)), (5, 1, (.t 35))]) ::
oD 37 (.sliceAll (.int .u64) 1 [(0, 1, (.c (.int .u64 2054)))]) ::
oD 38 (.buildAll 6 [(0, 1, (.c (.str [97, 114, 112, 95, 115, 112, 97]))), (1, 1, (cI 32)), (2, 1, (cI 4)), (3, 1, cT), (4, 1, (cI 5)), (5, 1, (.t 37))]) ::
oD 39 (.sliceAll (.int .u64) 1 [(0, 1, (.c (.int .u64 2054)))]) ::
oD 40 (.buildAll 6 [(0, 1, (.c (.str [97, 114, 112, 95, 116, 112, 97]))), (1, 1, (cI 32)), (2, 1, (cI 4)), (3, 1, cT), (4, 1, (cI 5)), (5, 1, (.t 39))]) ::
oD 41 (.sliceAll (.int .u64) 1 [(0, 1, (.c (.int .u64 2054)))]) ::
oD 42 (.buildAll 6 [(0, 1, (.c (.str [97, 114, 112, 95, 115, 104, 97]))), (1, 1, (cI 48)), (2, 1, (cI 6)), (3, 1, cT), (4, 1, (cI 5)), (5, 1, (.t 41))]) ::
oD 43 (.sliceAll (.int .u64) 1 [(0, 1, (.c (.int .u64 2054)))]) ::
oD 44 (.buildAll 6 [(0, 1, (.c (.str [97, 114, 112, 95, 116, 104, 97]))), (1, 1, (cI 48)), (2, 1, (cI 6)), (3, 1, cT), (4, 1, (cI 5)), (5, 1, (.t 43))]) ::
oD 45 (.sliceAll (.int .u64) 1 [(0, 1, (.c (.int .u64 34525)))]) ::
oD 46 (.buildAll 6 [(0, 1, (.c (.str [105, 112, 118, 54, 95, 115, 114, 99]))), (1, 1, (cI 128)), (2, 1, (cI 16)), (3, 1, cT), (4, 1, (cI 5)), (5, 1, (.t 45))]) ::
oD 47 (.sliceAll (.int .u64) 1 [(0, 1, (.c (.int .u64 34525)))]) ::
oD 48 (.buildAll 6 [(0, 1, (.c (.str [105, 112, 118, 54, 95, 100, 115, 116]))), (1, 1, (cI 128)), (2, 1, (cI 16)), (3, 1, cT), (4, 1, (cI 5)), (5, 1, (.t 47))]) ::
oD 49 (.sliceAll (.int .u64) 1 [(0, 1, (.c (.int .u64 34525)))]) ::
oD 50 (.buildAll 6 [(0, 1, (.c (.str [105, 112, 118, 54, 95, 102, 108, 97, 98, 101, 108]))), (1, 1, (cI 20)), (2, 1, (cI 4)), (3, 1, cT), (4, 1, (cI 5)), (5, 1, (.t 49))]) ::
oD 51 (.sliceAll (.int .u64) 1 [(0, 1, (.c (.int .u64 58)))]) ::
oD 52 (.buildAll 6 [(0, 1, (.c (.str [105, 99, 109, 112, 118, 54, 95, 116, 121, 112, 101]))), (1, 1, (cI 8)), (2, 1, (cI 1)), (3, 1, cF), (4, 1, (cI 10)), (5, 1, (.t 51))]) ::
oD 53 (.sliceAll (.int .u64) 1 [(0, 1, (.c (.int .u64 58)))]) ::
oD 54 (.buildAll 6 [(0, 1, (.c (.str [105, 99, 109, 112, 118, 54, 95, 99, 111, 100, 101]))), (1, 1, (cI 8)), (2, 1, (cI 1)), (3, 1, cF), (4, 1, (cI 10)), (5, 1, (.t 53))]) ::
oD 55 (.sliceAll (.int .u64) 2 [(0, 1, (.c (.int .u64 135))), (1, 1, (.c (.int .u64 136)))]) ::
oD 56 (.buildAll 6 [(0, 1, (.c (.str [105, 112, 118, 54, 95, 110, 100, 95, 116, 97, 114, 103, 101, 116]))), (1, 1, (cI 128)), (2, 1, (cI 16)), (3, 1, cF), (4, 1, (cI 29)), (5, 1, (.t 55))]) ::
oD 57 (.sliceAll (.int .u64) 1 [(0, 1, (.c (.int .u64 135)))]) ::
oD 58 (.buildAll 6 [(0, 1, (.c (.str [105, 112, 118, 54, 95, 110, 100, 95, 115, 108, 108]))), (1, 1, (cI 48)), (2, 1, (cI 6)), (3, 1, cF), (4, 1, (cI 29)), (5, 1, (.t 57))]) ::
oD 59 (.sliceAll (.int .u64) 1 [(0, 1, (.c (.int .u64 136)))]) ::
oD 60 (.buildAll 6 [(0, 1, (.c (.str [105, 112, 118, 54, 95, 110, 100, 95, 116, 108, 108]))), (1, 1, (cI 48)), (2, 1, (cI 6)), (3, 1, cF), (4, 1, (cI 29)), (5, 1, (.t 59))]) ::
oD 61 (.sliceAll (.int .u64) 2 [(0, 1, (.c (.int .u64 34887))), (1, 1, (.c (.int .u64 34888)))]) ::
oD 62 (.buildAll 6 [(0, 1, (.c (.str [109, 112, 108, 115, 95, 108, 97, 98, 101, 108]))), (1, 1, (cI 20)), (2, 1, (cI 4)), (3, 1, cF), (4, 1, (cI 5)), (5, 1, (.t 61))]) ::
oD 63 (.sliceAll (.int .u64) 2 [(0, 1, (.c (.int .u64 34887))), (1, 1, (.c (.int .u64 34888)))]) ::
oD 64 (.buildAll 6 [(0, 1, (.c (.str [109, 112, 108, 115, 95, 116, 99]))), (1, 1, (cI 3)), (2, 1, (cI 1)), (3, 1, cF), (4, 1, (cI 5)), (5, 1, (.t 63))]) ::
oD 65 (.sliceAll (.int .u64) 2 [(0, 1, (.c (.int .u64 34887))), (1, 1, (.c (.int .u64 34888)))]) ::
oD 66 (.buildAll 6 [(0, 1, (.c (.str [109, 112, 108, 115, 95, 98, 111, 115]))), (1, 1, (cI 1)), (2, 1, (cI 1)), (3, 1, cF), (4, 1, (cI 5)), (5, 1, (.t 65))]) ::
oD 67 (.sliceAll (.int .u64) 1 [(0, 1, (.c (.int .u64 35047)))]) ::
oD 68 (.buildAll 6 [(0, 1, (.c (.str [112, 98, 98, 95, 105, 115, 105, 100]))), (1, 1, (cI 24)), (2, 1, (cI 3)), (3, 1, cT), (4, 1, (cI 5)), (5, 1, (.t 67))]) ::
oD 69 (.buildAll 6 [(0, 1, (.c (.str [116, 117, 110, 110, 101, 108, 95, 105, 100]))), (1, 1, (cI 64)), (2, 1, (cI 8)), (3, 1, cT), (4, 1, (cI (-1))), (5, 1, (.c (.imm (.int .u64) [])))]) ::
oD 70 (.sliceAll (.int .u64) 1 [(0, 1, (.c (.int .u64 34525)))]) ::
oD 71 (.buildAll 6 [(0, 1, (.c (.str [105, 112, 118, 54, 95, 101, 120, 116, 104, 100, 114]))), (1, 1, (cI 9)), (2, 1, (cI 2)), (3, 1, cT), (4, 1, (cI 5)), (5, 1, (.t 70))]) ::
oD 72 (.sliceAll (.cons .str (.cons (.int .i64) (.cons (.int .i64) (.cons .bool (.cons (.int .i64) (.cons (.sl (.int .u64)) .nil)))))) 40 [(0, 6, (.t 1)), (6, 6, (.t 2)), (12, 6, (.t 3)), (18, 6, (.t 4)), (24, 6, (.t 5)), (30, 6, (.t 6)), (36, 6, (.t 7)), (42, 6, (.t 8)), (48, 6, (.t 10)), (54, 6, (.t 12)), (60, 6, (.t 14)), (66, 6, (.t 16)), (72, 6, (.t 18)), (78, 6, (.t 20)), (84, 6, (.t 22)), (90, 6, (.t 24)), (96, 6, (.t 26)), (102, 6, (.t 28)), (108, 6, (.t 30)), (114, 6, (.t 32)), (120, 6, (.t 34)), (126, 6, (.t 36)), (132, 6, (.t 38)), (138, 6, (.t 40)), (144, 6, (.t 42)), (150, 6, (.t 44)), (156, 6, (.t 46)), (162, 6, (.t 48)), (168, 6, (.t 50)), (174, 6, (.t 52)), (180, 6, (.t 54)), (186, 6, (.t 56)), (192, 6, (.t 58)), (198, 6, (.t 60)), (204, 6, (.t 62)), (210, 6, (.t 64)), (216, 6, (.t 66)), (222, 6, (.t 68)), (228, 6, (.t 69)), (234, 6, (.t 71))]) ::
oM 0 72 ::
[])))
.ret))
def rd_r07_All : List RD := [.tmp 0 true (some (.cons .str (.cons (.int .i64) (.cons (.int .i64) (.cons .bool (.cons (.int .i64) (.cons (.sl (.int .u64)) .nil)))))))]
theorem ok_r07_All : fnOk Tryz.prog Tryz.f277 ir_r07_All rd_r07_All = true := by kernel_rfl
def S_r07_All : List AV → List Obj → Option (Prop × AV)
  | [], [] => some (True, .imm fieldT tab)
  | _, _ => none
theorem snd_r07_All : SoundS Tryz.prog 277 (RoF S_r07_All).sum := by
  refine ro_fn Tryz.func277 ok_r07_All (env_nil _) fun args objs p v e => ?_
  unfold S_r07_All at e
  split at e
  · cases e
    refine ⟨rfl, fun hw _ hp => ?_⟩
    repeat' (intro t ht; first | (cases t <;> first | (cases ht; done) | ((try simp only [bn_s] at ht); (try simp only [nd_s] at ht))) | (refine ht ?_ ?_ <;> clear ht) | (refine ht.1 ?_ ?_ <;> clear ht) | (refine ht ?_; clear ht))
    exact ⟨rfl, rfl⟩
  · cases e
def tabG (n : Int) : fieldT.den := tab.getD n.toNat fieldT.dflt
def nameR (n : Int) : List Int := if fIs n then (tabG n).1 else []
def bitsR (n : Int) : Int := if fIs n then (tabG n).2.1 else 0
def sizeR (n : Int) : Int := if fIs n then (tabG n).2.2.1 else 0
def maskR (n : Int) : Bool := if fIs n then (tabG n).2.2.2.1 else false
def needR (n : Int) : Int := if fIs n then (tabG n).2.2.2.2.1 else 0
def valsR (n : Int) : List Int := if fIs n then (tabG n).2.2.2.2.2.1 else []
abbrev ofR (n : Int) : AV := .tup [.agg [.str (nameR n), .int .i64 (bitsR n), .int .i64 (sizeR n), .bool (maskR n), .int .i64 (needR n), .imm (.int .u64) (valsR n)], .bool (fIs n)]
theorem tabL : tab.length = 40 := rfl
def ir_r07_Of : IR :=
(.seq
(.keep [0]
(.reg (oD 2 (.box [.str [], .int .i64 0, .int .i64 0, .kb false, .int .i64 0, .imm (.int .u64) []]) ::
oD 3 (.mov cF) ::
[])))
(.seq
(.reg (oD 5 (.call false (.f 277) []) ::
oM 4 5 ::
[]))
(.seq
(.seq
(.keep [0, 2, 4]
(.reg (oM 6 0 ::
oD 7 (.bin .lss (.t 6) (cI 0)) ::
oM 8 7 ::
oF 8 9 (.mov (.t 0)) ::
oF 8 10 (.mov (.t 4)) ::
oF 8 11 (.len (.t 10)) ::
oF 8 12 (.bin .geq (.t 9) (.t 11)) ::
oD 13 (.pick (.t 8) cT (.t 12)) ::
[])))
(.cond (.t 13)
(.seq
(.keep [2]
(.reg (oD 14 (.build [.str [], .int .i64 0, .int .i64 0, .kb false, .int .i64 0, .imm (.int .u64) []] []) ::
oN (.store 6 (.t 2) (.t 14)) ::
oD 3 (.mov cF) ::
[])))
.ret)
.skip))
(.seq
(.keep [0, 2, 4]
(.reg (oM 15 4 ::
oM 16 0 ::
oD 17 (.indexSl 6 (.t 15) (.t 16)) ::
oD 18 (.load (some 6) (.t 17)) ::
oN (.store 6 (.t 2) (.t 18)) ::
oD 3 (.mov cT) ::
[])))
.ret))))
def rd_r07_Of : List RD := [.cell 2 (some 6) true [], .tmp 3 true none]
theorem ok_r07_Of : fnOk Tryz.prog Tryz.f250 ir_r07_Of rd_r07_Of = true := by kernel_rfl
def S_r07_Of : List AV → List Obj → Option (Prop × AV)
  | [.int .i64 n], [] => some ((True, ofR n))
  | _, _ => none
theorem snd_r07_Of : SoundS Tryz.prog 250 (RoF S_r07_Of).sum := by
  refine ro_fn Tryz.func250 ok_r07_Of (env_cons (s := RoF S_r07_All) snd_r07_All (env_nil _)) fun args objs p v e => ?_
  unfold S_r07_Of at e
  split at e
  · rename_i n
    cases e
    refine ⟨rfl, fun hw ho hp => ?_⟩
    repeat' (intro t ht; first | (cases t <;> first | (cases ht; done) | ((try simp only [bn_s] at ht); (try simp only [nd_s] at ht))) | (refine ht ?_ ?_ <;> clear ht) | (refine ht.1 ?_ ?_ <;> clear ht) | (refine ht ?_; clear ht))
    all_goals first
      | trivial
      | ((try simp only [nd_s, bn_s, mm_s] at *); rw [tabL] at *; omega)
      | (refine ⟨?_, rfl⟩
         first
           | (have hn : fIs n = true := fIs_t.2 (by (try simp only [nd_s, bn_s, mm_s] at *); rw [tabL] at *; omega)
              unfold ofR nameR bitsR sizeR maskR needR valsR; rw [hn]; rfl)
           | (have hn : fIs n = false := fIs_f.2 (by (try simp only [nd_s, bn_s, mm_s] at *); rw [tabL] at *; omega)
              unfold ofR nameR bitsR sizeR maskR needR valsR; rw [hn]; rfl)
           | (have hn : fIs n = false := fIs_f.2 (by (try simp only [nd_s, bn_s, mm_s] at *); omega)
              unfold ofR nameR bitsR sizeR maskR needR valsR; rw [hn]; rfl))
  · cases e
def spareF (s : Int) : List Int → Bool
  | [] => true
  | b :: r => if b.fdiv (2 ^ (min (8 - (if 8 < s then 8 else s)).toNat 8)) = 0 then spareF (s - (if 8 < s then 8 else s)) r else false
theorem spareF_step {s : Int} {v : List Int} {i : Nat} (h : i < v.length) : spareF s (v.drop i) = if (v.getD i 0).fdiv (2 ^ (min (8 - (if 8 < s then 8 else s)).toNat 8)) = 0 then spareF (s - (if 8 < s then 8 else s)) (v.drop (i + 1)) else false := by
  rw [List.drop_eq_getElem_cons h, List.getD_eq_getElem?_getD, List.getElem?_eq_getElem h]
  rfl
theorem spareF_end {s : Int} {v : List Int} {i : Nat} (h : v.length ≤ i) : spareF s (v.drop i) = true := by
  rw [List.drop_of_length_le h]; rfl
def fitsF (n : Int) (v : List Int) : Bool := if (0 ≤ n ∧ n < 40) ∧ (v.length : Int) = sizeF n then spareF (8 * sizeF n - bitsL.getD n.toNat 0) v else false
theorem size_le : ∀ k < 40, 1 ≤ sizeF (k : Nat) ∧ sizeF (k : Nat) ≤ 16 ∧ 0 ≤ 8 * sizeF (k : Nat) - bitsL.getD k 0 ∧ 8 * sizeF (k : Nat) - bitsL.getD k 0 ≤ 12 := by decide
def ir_field_Fits : IR :=
(.seq
(.keep [0, 1]
(.reg (oD 4 (.mov cF) ::
[])))
(.seq
(.seq
(.keep [0, 1]
(.reg (oM 9 0 ::
oD 10 (.call false (.f 299) [(.t 9)]) ::
oD 11 (.un .not (.t 10)) ::
oM 12 11 ::
oF 12 13 (.mov (.t 1)) ::
oF 12 14 (.len (.t 13)) ::
oF 12 15 (.mov (.t 0)) ::
oF 12 16 (.call false (.f 301) [(.t 15)]) ::
oF 12 17 (.bin .neq (.t 14) (.t 16)) ::
oD 18 (.pick (.t 12) cT (.t 17)) ::
[])))
(.cond (.t 18)
(.seq
(.keep []
(.reg (oD 4 (.mov cF) ::
[])))
.ret)
.skip))
(.seq
(.keep [0, 1]
(.reg (oM 19 0 ::
oD 20 (.call false (.f 301) [(.t 19)]) ::
oD 21 (.bin .mul (cI 8) (.t 20)) ::
oM 22 0 ::
oD 23 (.call false (.f 300) [(.t 22)]) ::
oD 24 (.bin .sub (.t 21) (.t 23)) ::
oM 5 24 ::
[])))
(.seq
(.seq
(.keep [1, 5]
(.reg (oM 25 1 ::
oD 26 (.len (.t 25)) ::
oD 27 (.mov (cI 0)) ::
[])))
(.block 0
(.loop
(.seq
(.keep [5, 25, 26, 27]
(.reg (oD 28 (.bin .lss (.t 27) (.t 26)) ::
[])))
(.seq
(.cond (.t 28)
.skip
(.exit 0))
(.seq
(.block 1
(.seq
(.reg (oD 29 (.indexSl 1 (.t 25) (.t 27)) ::
oL 30 29 ::
oM 7 30 ::
[]))
(.seq
(.reg (oM 31 5 ::
oD 32 (.minmax false (.t 31) (cI 8)) ::
oM 8 32 ::
[]))
(.seq
(.seq
(.keep [5, 7, 8, 25, 26, 27]
(.reg (oM 33 7 ::
oM 34 8 ::
oD 35 (.bin .sub (cI 8) (.t 34)) ::
oD 36 (.bin .shr (.t 33) (.t 35)) ::
oD 37 (.bin .neq (.t 36) (.c (.int .u8 0))) ::
[])))
(.cond (.t 37)
(.seq
(.reg (oD 4 (.mov cF) ::
[]))
.ret)
.skip))
(.keep [5, 8, 25, 26, 27]
(.reg (oM 38 5 ::
oM 39 8 ::
oD 40 (.bin .sub (.t 38) (.t 39)) ::
oM 5 40 ::
[])))))))
(.keep [5, 25, 26, 27]
(.reg (oD 41 (.bin .add (.t 27) (cI 1)) ::
oM 27 41 ::
[])))))))))
(.seq
(.keep []
(.reg (oD 4 (.mov cT) ::
[])))
.ret)))))
def rd_field_Fits : List RD := [.tmp 4 true none]
theorem ok_field_Fits : fnOk Tryz.prog Tryz.f288 ir_field_Fits rd_field_Fits = true := by kernel_rfl
def S_field_Fits : List AV → List Obj → Option (Prop × AV)
  | [.int .i64 n, .imm (.int .u8) v], [] => some (True, .bool (fitsF n v))
  | _, _ => none
theorem snd_field_Fits : SoundS Tryz.prog 288 (RoF S_field_Fits).sum := by
  refine ro_fn Tryz.func288 ok_field_Fits (env_cons (s := RoF S_field_is) snd_field_is (env_cons (s := RoF S_field_size) snd_field_size (env_cons (s := RoF S_field_bits) snd_field_bits (env_nil _)))) fun args objs p v e => ?_
  unfold S_field_Fits at e
  split at e
  · rename_i n v
    cases e
    refine ⟨rfl, fun hw _ hp => ?_⟩
    have hl : v.length ≤ maxLen := (hw (.imm (.int .u8) v) (by simp)).2
    unfold maxLen at hl
    repeat' (intro t ht; first | (cases t <;> first | (cases ht; done) | ((try simp only [bn_s] at ht); (try simp only [nd_s] at ht))) | (refine ht ?_ ?_ <;> clear ht) | (refine ht.1 ?_ ?_ <;> clear ht) | (refine ht ?_; clear ht))
    all_goals first
      | trivial
      | (intro r h1 h2; (try simp only [fIs_t, fIs_f, nd_s, bn_s, mm_s] at *)
         have hsz := size_le n.toNat (by omega)
         rw [Int.toNat_of_nonneg (by omega)] at hsz
         refine h2 ⟨[25, 26, 27, 5], Nat × Int, (fun p => p.1 ≤ v.length ∧ 0 ≤ p.2 ∧ p.2 ≤ 12 ∧ spareF (8 * sizeF n - bitsL.getD n.toNat 0) v = spareF p.2 (v.drop p.1)),
           fun a => [.imm (.int .u8) v, .int .i64 v.length, .int .i64 a.1, .int .i64 a.2], fun _ => [], fun a => v.length - a.1, ⟨(0, 8 * sizeF n - bitsL.getD n.toNat 0), ⟨Nat.zero_le _, hsz.2.2.1, hsz.2.2.2, rfl⟩, rfl, rfl⟩, ?_⟩
         clear h1 h2)
      | ((try simp only [fIs_t, fIs_f, nd_s, bn_s, mm_s] at *); omega)
      | ((try simp only [fIs_t, fIs_f, nd_s, bn_s, mm_s] at *); have hsz := size_le n.toNat (by omega)
         rw [Int.toNat_of_nonneg (by omega)] at hsz
         have hb := bits_le n.toNat (by omega)
         omega)
      | (refine ⟨?_, rfl⟩; (try simp only [fIs_t, fIs_f, nd_s, bn_s, mm_s] at *); unfold fitsF; rw [if_neg (by omega)])
    rintro ⟨i, s⟩ ⟨hi, hs0, hs1, he⟩
    dsimp only at hi hs0 hs1 he
    repeat' (intro t ht; first | (cases t <;> first | (cases ht; done) | ((try simp only [bn_s] at ht); (try simp only [nd_s] at ht))) | (refine ht ?_ ?_ <;> clear ht) | (refine ht.1 ?_ ?_ <;> clear ht) | (refine ht ?_; clear ht))
    all_goals have hk : 0 ≤ (if (8 : Int) < s then 8 else s) ∧ (if (8 : Int) < s then 8 else s) ≤ 8 ∧ (if (8 : Int) < s then 8 else s) ≤ s := by split <;> omega
    all_goals have hv : (0 ≤ n ∧ n < 40) ∧ (v.length : Int) = sizeF n := ⟨by omega, by omega⟩
    all_goals first
      | (refine ⟨?_, rfl⟩; unfold fitsF; rw [if_pos hv, he]; (try simp only [fIs_t, fIs_f, nd_s, bn_s, mm_s] at *); rw [spareF_end (by omega)]; done)
      | (refine ⟨?_, rfl⟩; unfold fitsF; rw [if_pos hv, he]; (try simp only [fIs_t, fIs_f, nd_s, bn_s, mm_s] at *); rw [spareF_step (by omega), if_neg (by assumption)]; done)
      | ((try simp only [fIs_t, fIs_f, nd_s, bn_s, mm_s] at *); omega)
      | ((try simp only [fIs_t, fIs_f, nd_s, bn_s, mm_s] at *); generalize (if (8 : Int) < s then 8 else s) = k at *; omega)
      | (have hlt : i < v.length := by ((try simp only [fIs_t, fIs_f, nd_s, bn_s, mm_s] at *); omega)
         refine ⟨(i + 1, s - (if (8 : Int) < s then 8 else s)), ⟨hlt, by dsimp only; omega, by dsimp only; omega, by (try simp only [fIs_t, fIs_f, nd_s, bn_s, mm_s] at *); rw [he, spareF_step hlt, if_pos (by assumption)]⟩, by dsimp only; omega, rfl, rfl⟩)
  · cases e
end Go.Eng
namespace Go.Eng
open Go.Proofs
set_option linter.unusedVariables false
set_option linter.unusedSimpArgs false
set_option maxRecDepth 100000
set_option maxHeartbeats 1000000
def refL (v : List Int) (z : Int) : Nat → Int → Bool
  | 0, _ => true
  | f + 1, i => if bitop .and .u8 ((v.getD (z - 1 - i.tdiv 8).toNat 0).fdiv (2 ^ (min (i.tmod 8).toNat 8))) 1 = 1 then false else refL v z f (i + 1)
theorem refL_t {v : List Int} {z i : Int} {f : Nat} (h : bitop .and .u8 ((v.getD (z - 1 - i.tdiv 8).toNat 0).fdiv (2 ^ (min (i.tmod 8).toNat 8))) 1 = 1) : refL v z (f + 1) i = false := if_pos h
theorem refL_f {v : List Int} {z i : Int} {f : Nat} (h : ¬ bitop .and .u8 ((v.getD (z - 1 - i.tdiv 8).toNat 0).fdiv (2 ^ (min (i.tmod 8).toNat 8))) 1 = 1) : refL v z (f + 1) i = refL v z f (i + 1) := if_neg h
def refFitsF (n : Int) (v : List Int) : Bool := if fIs n = true ∧ (v.length : Int) = sizeR n then refL v (sizeR n) (8 * sizeR n - bitsR n).toNat (bitsR n) else false
theorem tab_le : ∀ k < 40, 1 ≤ sizeR (k : Nat) ∧ sizeR (k : Nat) ≤ 16 ∧ 1 ≤ bitsR (k : Nat) ∧ bitsR (k : Nat) ≤ 8 * sizeR (k : Nat) := by decide
def ir_r07_Fits : IR :=
(.seq
(.keep [0, 1]
(.reg (oD 4 (.mov cF) ::
[])))
(.seq
(.keep [0, 1]
(.reg (oM 9 0 ::
oD 10 (.call false (.f 250) [(.t 9)]) ::
oM 8 10 ::
oD 11 (.extract (.t 8) 0) ::
oD 12 (.extract (.t 8) 1) ::
oD 5 (.box [.str [], .int .i64 0, .int .i64 0, .kb false, .int .i64 0, .imm (.int .u64) []]) ::
oN (.store 6 (.t 5) (.t 11)) ::
oM 6 12 ::
[])))
(.seq
(.seq
(.keep [1, 5, 6]
(.reg (oM 13 6 ::
oD 14 (.un .not (.t 13)) ::
oM 15 14 ::
oF 15 16 (.mov (.t 1)) ::
oF 15 17 (.len (.t 16)) ::
oF 15 18 (.fieldAddr 2 (.t 5)) ::
oF 15 19 (.load none (.t 18)) ::
oF 15 20 (.bin .neq (.t 17) (.t 19)) ::
oD 21 (.pick (.t 15) cT (.t 20)) ::
[])))
(.cond (.t 21)
(.seq
(.keep []
(.reg (oD 4 (.mov cF) ::
[])))
.ret)
.skip))
(.seq
(.seq
(.keep [1, 5]
(.reg (oD 22 (.fieldAddr 1 (.t 5)) ::
oL 23 22 ::
oM 7 23 ::
[])))
(.block 0
(.loop
(.seq
(.seq
(.keep [1, 5, 7]
(.reg (oM 24 7 ::
oD 25 (.fieldAddr 2 (.t 5)) ::
oL 26 25 ::
oD 27 (.bin .mul (cI 8) (.t 26)) ::
oD 28 (.bin .lss (.t 24) (.t 27)) ::
[])))
(.cond (.t 28)
.skip
(.exit 0)))
(.seq
(.block 1
(.seq
(.keep [1, 5, 7]
(.reg (oM 31 1 ::
oD 32 (.fieldAddr 2 (.t 5)) ::
oL 33 32 ::
oD 34 (.bin .sub (.t 33) (cI 1)) ::
oM 35 7 ::
oD 36 (.bin .quo (.t 35) (cI 8)) ::
oD 37 (.bin .sub (.t 34) (.t 36)) ::
oD 38 (.indexSl 1 (.t 31) (.t 37)) ::
oL 39 38 ::
oM 40 7 ::
oD 41 (.bin .rem (.t 40) (cI 8)) ::
oD 42 (.bin .shr (.t 39) (.t 41)) ::
oD 43 (.bin .and (.t 42) (.c (.int .u8 1))) ::
oD 44 (.bin .eql (.t 43) (.c (.int .u8 1))) ::
[])))
(.cond (.t 44)
(.seq
(.keep []
(.reg (oD 4 (.mov cF) ::
[])))
.ret)
.skip)))
(.keep [1, 5, 7]
(.reg (oM 29 7 ::
oD 30 (.bin .add (.t 29) (cI 1)) ::
oM 7 30 ::
[]))))))))
(.seq
(.keep []
(.reg (oD 4 (.mov cT) ::
[])))
.ret)))))
def rd_r07_Fits : List RD := [.tmp 4 true none]
theorem ok_r07_Fits : fnOk Tryz.prog Tryz.f278 ir_r07_Fits rd_r07_Fits = true := by kernel_rfl
def S_r07_Fits : List AV → List Obj → Option (Prop × AV)
  | [.int .i64 n, .imm (.int .u8) v], [] => some ((True, .bool (refFitsF n v)))
  | _, _ => none
theorem snd_r07_Fits : SoundS Tryz.prog 278 (RoF S_r07_Fits).sum := by
  refine ro_fn Tryz.func278 ok_r07_Fits (env_cons (s := RoF S_r07_Of) snd_r07_Of (env_nil _)) fun args objs p v e => ?_
  unfold S_r07_Fits at e
  split at e
  · rename_i n v
    cases e
    refine ⟨rfl, fun hw ho hp => ?_⟩
    change List Int at v
    have hl : v.length ≤ maxLen := (hw (.imm (.int .u8) v) (by simp)).2
    unfold maxLen at hl
    repeat' (intro t ht; first | (cases t <;> first | (cases ht; done) | ((try simp only [bn_s] at ht); (try simp only [nd_s] at ht))) | (refine ht ?_ ?_ <;> clear ht) | (refine ht.1 ?_ ?_ <;> clear ht) | (refine ht ?_; clear ht))
    all_goals first
      | trivial
      | (refine ⟨?_, rfl⟩; unfold refFitsF; rw [if_neg (fun h => by (try simp only [nd_s, bn_s, mm_s] at *); simp_all; done)])
      | (have hn : fIs n = true := by assumption
         have hr := fIs_t.1 hn
         have hsz := tab_le n.toNat (by omega)
         rw [Int.toNat_of_nonneg (by omega)] at hsz
         obtain ⟨F, hF⟩ : ∃ F, F = (8 * (sizeR n) - (bitsR n)).toNat := ⟨_, rfl⟩
         intro r h1 h2
         refine h2 ⟨[1, 5, 7], Nat × Int, (fun p => p.1 ≤ F ∧ p.2 = (bitsR n) + p.1 ∧ refL v (sizeR n) F (bitsR n) = refL v (sizeR n) (F - p.1) p.2),
           fun a => [.imm (.int .u8) v, .ptr 0 0, .int .i64 a.2], fun _ => [.box [.str (nameR n), .int .i64 (bitsR n), .int .i64 (sizeR n), .bool (maskR n), .int .i64 (needR n), .imm (.int .u64) (valsR n)]], fun a => F - a.1, ⟨(0, (bitsR n)), ⟨Nat.zero_le _, by simp, rfl⟩, rfl, rfl⟩, ?_⟩
         clear h1 h2)
    rintro ⟨i, s⟩ ⟨hi, hs, he⟩
    dsimp only at hi hs he
    repeat' (intro t ht; first | (cases t <;> first | (cases ht; done) | ((try simp only [bn_s] at ht); (try simp only [nd_s] at ht))) | (refine ht ?_ ?_ <;> clear ht) | (refine ht.1 ?_ ?_ <;> clear ht) | (refine ht ?_; clear ht))
    all_goals have htd : s.tdiv 8 = s / 8 := tdiv_nn (by omega)
    all_goals have htm : s.tmod 8 = s % 8 := tmod_nn (by omega)
    all_goals have hv : fIs n = true ∧ (v.length : Int) = (sizeR n) := ⟨hn, by (try simp only [nd_s, bn_s, mm_s] at *); omega⟩
    all_goals first
      | exact (by decide)
      | (refine ⟨?_, rfl⟩; unfold refFitsF; rw [if_pos hv, ← hF, he]; (try simp only [nd_s, bn_s, mm_s] at *); rw [show F - i = 0 by omega]; rfl)
      | (refine ⟨?_, rfl⟩; unfold refFitsF; rw [if_pos hv, ← hF, he]; (try simp only [nd_s, bn_s, mm_s] at *); rw [show F - i = (F - i - 1) + 1 by omega, refL_t (by assumption)])
      | ((try simp only [nd_s, bn_s, mm_s] at *); omega)
      | ((try simp only [nd_s, bn_s, mm_s] at *); simp only [htd, htm]; omega)
      | (have hlt : s < 8 * (sizeR n) := by ((try simp only [nd_s, bn_s, mm_s] at *); omega)
         refine ⟨(i + 1, s + 1), ⟨by dsimp only; omega, by dsimp only; omega, by (try simp only [nd_s, bn_s, mm_s] at *); rw [he, show F - i = (F - (i + 1)) + 1 by omega, refL_f (by assumption)]⟩, by dsimp only; omega, rfl, rfl⟩)
  · cases e
def needsF (n : Int) : List Int := if 0 ≤ n ∧ n < 40 then (if (needF n).1 = -1 then [] else if (needF (needF n).1).1 = -1 then [(needF n).1] else if (needF (needF (needF n).1).1).1 = -1 then [(needF (needF n).1).1, (needF n).1] else [(needF (needF (needF n).1).1).1, (needF (needF n).1).1, (needF n).1]) else []
theorem c1 : needsF 31 = [5, 10, 29] := by decide
theorem c2 : findN [105, 112, 118, 54, 95, 110, 100, 95, 116, 108, 108] = 33 ∧ findB [105, 112, 118, 54, 95, 110, 100, 95, 116, 108, 108] = true := by
  have h : idxF namesL [105, 112, 118, 54, 95, 110, 100, 95, 116, 108, 108] 0 = 33 := by decide +kernel
  unfold findN findB; rw [h]; exact ⟨rfl, rfl⟩
theorem c3 : fIs 33 = true ∧ fNeed 33 = 29 ∧ fVals 33 = [136] := by decide
theorem c4 : fitsF 7 [8] = false := by decide
theorem spare0 : ∀ v : List Int, (∀ b ∈ v, 0 ≤ b ∧ b ≤ 255) → spareF 0 v = true
  | [], _ => rfl
  | b :: r, h => by
    unfold spareF
    have hb := h b (by simp)
    rw [if_pos (by show b.fdiv (2 ^ 8) = 0; rw [Int.fdiv_eq_ediv_of_nonneg _ (by decide)]; omega)]
    exact spare0 r fun x hx => h x (by simp [hx])
theorem refL_add (v : List Int) (z : Int) : ∀ (f g : Nat) (i : Int), refL v z (f + g) i = (refL v z f i && refL v z g (i + f))
  | 0, g, i => by simp [refL]
  | f + 1, g, i => by
    rw [show f + 1 + g = (f + g) + 1 by omega]
    by_cases h : bitop .and .u8 ((v.getD (z - 1 - i.tdiv 8).toNat 0).fdiv (2 ^ (min (i.tmod 8).toNat 8))) 1 = 1
    · rw [refL_t h, refL_t h]; rfl
    · rw [refL_f h, refL_f h, refL_add v z f g (i + 1), show i + 1 + (f : Int) = i + ((f + 1 : Nat) : Int) by omega]
theorem top_all : ∀ s ≤ 8, ∀ b < 256, spareF (s : Nat) [((b : Nat) : Int)] = refL [((b : Nat) : Int)] 1 s ((8 : Int) - (s : Nat)) := by decide +kernel
theorem top_one {s : Nat} {b : Int} (hs : s ≤ 8) (h : 0 ≤ b ∧ b ≤ 255) : spareF s [b] = refL [b] 1 s (8 - s) := by
  have := top_all s hs b.toNat (by omega)
  rw [Int.toNat_of_nonneg h.1] at this; exact this
theorem spare_cut {s : Int} {b : Int} {r : List Int} (h : s ≤ 8) (hr : ∀ x ∈ r, 0 ≤ x ∧ x ≤ 255) : spareF s (b :: r) = spareF s [b] := by
  unfold spareF
  rw [if_neg (by omega : ¬ 8 < s), Int.sub_self, spare0 r hr]
  rfl
theorem two {b0 b1 b2 b3 : Int} {v : List Int} (e : v = [b0, b1, b2, b3]) (hv : ∀ b ∈ v, 0 ≤ b ∧ b ≤ 255) : spareF 12 v = refL v 4 12 20 := by
  subst e
  have h0 := top_one (s := 8) (Nat.le_refl _) (hv b0 (by simp))
  have h1 := top_one (s := 4) (by omega) (hv b1 (by simp))
  have hr := refL_add [b0, b1, b2, b3] 4 4 8 20
  have e1 : refL [b0, b1, b2, b3] 4 4 20 = refL [b1] 1 4 (8 - (4 : Nat)) := rfl
  have e2 : refL [b0, b1, b2, b3] 4 8 (20 + (4 : Nat)) = refL [b0] 1 8 (8 - (8 : Nat)) := rfl
  have hc : spareF 4 (b1 :: [b2, b3]) = spareF 4 [b1] := spare_cut (by omega) fun x hx => hv x (by simp at hx ⊢; omega)
  rw [show (12 : Nat) = 4 + 8 from rfl, hr, e1, e2, ← h0, ← h1]
  show (if b0.fdiv (2 ^ (min (8 - (8 : Int)).toNat 8)) = 0 then spareF 4 [b1, b2, b3] else false) = (spareF 4 [b1] && (if b0.fdiv (2 ^ (min (8 - (8 : Int)).toNat 8)) = 0 then true else false))
  rw [hc]
  split <;> simp
theorem fits_tab : ∀ k < 40, fIs (k : Nat) = true ∧ sizeF (k : Nat) = sizeR (k : Nat) ∧ bitsL.getD k 0 = bitsR (k : Nat) ∧ (8 * sizeR (k : Nat) - bitsR (k : Nat) = 0 ∨ k = 6 ∨ k = 7 ∨ k = 8 ∨ k = 9 ∨ k = 28 ∨ k = 34 ∨ k = 35 ∨ k = 36 ∨ k = 39) := by decide
theorem fits_law {n : Int} {v : List Int} (hv : ∀ b ∈ v, 0 ≤ b ∧ b ≤ 255) : fitsF n v = refFitsF n v := by
  by_cases hn : 0 ≤ n ∧ n < 40
  · obtain ⟨k, rfl⟩ : ∃ k : Nat, n = k := ⟨n.toNat, by omega⟩
    obtain ⟨h0, h1, h2, h3⟩ := fits_tab k (by omega)
    unfold fitsF refFitsF
    rw [h1]
    by_cases hl : (v.length : Int) = sizeR k
    · rw [if_pos ⟨hn, hl⟩, if_pos ⟨h0, hl⟩, Int.toNat_natCast, h2]
      have one : ∀ {s : Nat} {f : Nat} {i z : Int} {b : Int} {r : List Int}, v = b :: r → s ≤ 8 → f = s → (refL v z f i = refL [b] 1 s (8 - s)) → spareF s v = refL v z f i := fun {s f i z b r} e hs _ hr => by
        rw [hr, ← top_one hs (hv b (by rw [e]; simp)), e]
        exact spare_cut (by omega) fun x hx => hv x (by rw [e]; simp [hx])
      rcases h3 with h3 | rfl | rfl | rfl | rfl | rfl | rfl | rfl | rfl | rfl
      · rw [h3, spare0 v hv]; rfl
      · match v, hl with
        | [b0, b1], _ => exact one (s := 3) rfl (by omega) rfl rfl
      · match v, hl with
        | [b0], _ => exact one (s := 5) rfl (by omega) rfl rfl
      · match v, hl with
        | [b0], _ => exact one (s := 2) rfl (by omega) rfl rfl
      · match v, hl with
        | [b0], _ => exact one (s := 6) rfl (by omega) rfl rfl
      · match v, hl with
        | [b0, b1, b2, b3], _ => exact two rfl hv
      · match v, hl with
        | [b0, b1, b2, b3], _ => exact two rfl hv
      · match v, hl with
        | [b0], _ => exact one (s := 5) rfl (by omega) rfl rfl
      · match v, hl with
        | [b0], _ => exact one (s := 7) rfl (by omega) rfl rfl
      · match v, hl with
        | [b0, b1], _ => exact one (s := 7) rfl (by omega) rfl rfl
    · rw [if_neg (fun h => hl h.2), if_neg (fun h => hl h.2)]
  · unfold fitsF refFitsF
    rw [if_neg (fun h => hn h.1), if_neg (fun h => hn (fIs_t.1 h.1))]
end Go.Eng
