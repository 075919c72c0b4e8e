/- Parts of the proof: O2, O9, O5. No condition. -/
import Derived.Test.YtbenhegdnaoalaaGreatDoorProg
import Derived.Test.YtbenhegdnaoalaaGreatDoorWA10
import Derived.KernelRfl
import Derived.Test.YtbenhegdnaoalaaGreatDoorWA12
import Derived.Test.YtbenhegdnaoalaaGreatDoorWA13
namespace Go.Eng
open Go.Proofs
set_option linter.unusedVariables false
set_option linter.unusedSimpArgs false
set_option maxRecDepth 100000
set_option maxHeartbeats 1000000
structure Ox where
  c : Int
  f : Int
  has : Bool
  x : Int
  v : List Int
  m : List Int
def ir_oxm_blank : IR :=
(.seq
(.keep [0]
(.reg (oD 2 (.mov cF) ::
[])))
(.seq
(.keep [0]
(.reg (oM 3 0 ::
oD 4 (.call false (.f 133) [(.t 3), (.c (.str [0]))]) ::
oD 5 (.len (.t 4)) ::
oD 6 (.bin .eql (.t 5) (cI 0)) ::
oM 2 6 ::
[])))
.ret))
def rd_oxm_blank : List RD := [.tmp 2 true none]
theorem ok_oxm_blank : fnOk Tryz.prog Tryz.f289 ir_oxm_blank rd_oxm_blank = true := by kernel_rfl
def S_oxm_blank : List AV → List Obj → Option (Prop × AV)
  | [.imm (.int .u8) b], [] => some ((b.length ≤ 140737488355328, .bool (zeroL b)))
  | _, _ => none
theorem snd_oxm_blank : SoundS Tryz.prog 289 (RoF S_oxm_blank).sum := by
  refine ro_fn Tryz.func289 ok_oxm_blank (env_cons (s := RoF S_bytes_Trim) snd_bytes_Trim (env_nil _)) fun args objs p v e => ?_
  unfold S_oxm_blank at e
  split at e
  · rename_i b
    cases e
    refine ⟨rfl, fun hw ho hp => ?_⟩
    change List Int at b
    have h := trim_zero b
    repeat' (intro t ht; first | (cases t <;> first | (cases ht; done) | ((try simp only [bn_s] at ht); (try simp only [nd_s] at ht))) | (refine ht ?_ ?_ <;> clear ht) | (refine ht.1 ?_ ?_ <;> clear ht) | (refine ht ?_; clear ht))
    all_goals first
      | exact hp
      | (refine ⟨?_, rfl⟩; rw [← h]; congr 1; rw [Bool.eq_iff_iff]; simp only [decide_eq_true_eq]; omega)
      | trace_state
  · cases e
def ownA (s : Int) : Int := if 0 < s then (255 : Int).fdiv (2 ^ (min (if 8 < s then 8 else s).toNat 8)) else 255
def onesA : List Int → Int → Bool
  | [], _ => true
  | x :: r, s => if x = ownA s then onesA r (s - 8) else false
def onesF (b : List Int) (bits : Int) : Bool := onesA b (b.length * 8 - bits)
def ir_oxm_ones : IR :=
(.seq
(.keep [0, 1]
(.reg (oD 4 (.mov cF) ::
[])))
(.seq
(.reg (oM 10 0 ::
oD 11 (.len (.t 10)) ::
oD 12 (.bin .mul (.t 11) (cI 8)) ::
oM 5 12 ::
[]))
(.seq
(.seq
(.reg (oM 13 0 ::
oD 14 (.len (.t 13)) ::
oD 15 (.mov (cI 0)) ::
[]))
(.block 0
(.loop
(.seq
(.keep [1, 5, 13, 14, 15]
(.reg (oD 16 (.bin .lss (.t 15) (.t 14)) ::
[])))
(.seq
(.cond (.t 16)
.skip
(.exit 0))
(.seq
(.block 1
(.seq
(.keep [1, 5, 13, 14, 15]
(.reg (oM 17 15 ::
oD 18 (.indexSl 1 (.t 13) (.t 15)) ::
oL 19 18 ::
oM 6 17 ::
oM 7 19 ::
[])))
(.seq
(.reg (oD 8 (.mov (.c (.int .u8 255))) ::
[]))
(.seq
(.seq
(.keep [1, 5, 6, 7, 8, 13, 14, 15]
(.reg (oM 20 5 ::
oM 21 6 ::
oD 22 (.bin .mul (.t 21) (cI 8)) ::
oD 23 (.bin .sub (.t 20) (.t 22)) ::
oM 24 1 ::
oD 25 (.bin .sub (.t 23) (.t 24)) ::
oM 9 25 ::
[])))
(.seq
(.keep [1, 5, 7, 8, 9, 13, 14, 15]
(.reg (oM 26 9 ::
oD 27 (.bin .gtr (.t 26) (cI 0)) ::
[])))
(.cond (.t 27)
(.keep [1, 5, 7, 8, 9, 13, 14, 15]
(.reg (oM 28 8 ::
oM 29 9 ::
oD 30 (.minmax false (.t 29) (cI 8)) ::
oD 31 (.bin .shr (.t 28) (.t 30)) ::
oM 8 31 ::
[])))
.skip)))
(.seq
(.reg (oM 32 7 ::
oM 33 8 ::
oD 34 (.bin .neq (.t 32) (.t 33)) ::
[]))
(.cond (.t 34)
(.seq
(.keep []
(.reg (oD 4 (.mov cF) ::
[])))
.ret)
.skip))))))
(.keep [1, 5, 13, 14, 15]
(.reg (oD 35 (.bin .add (.t 15) (cI 1)) ::
oM 15 35 ::
[])))))))))
(.seq
(.keep []
(.reg (oD 4 (.mov cT) ::
[])))
.ret))))
def rd_oxm_ones : List RD := [.tmp 4 true none]
theorem ok_oxm_ones : fnOk Tryz.prog Tryz.f290 ir_oxm_ones rd_oxm_ones = true := by kernel_rfl
def S_oxm_ones : List AV → List Obj → Option (Prop × AV)
  | [.imm (.int .u8) b, .int .i64 n], [] => some ((0 ≤ n ∧ n ≤ 1000000 ∧ b.length ≤ 1000000, .bool (onesF b n)))
  | _, _ => none
theorem snd_oxm_ones : SoundS Tryz.prog 290 (RoF S_oxm_ones).sum := by
  refine ro_fn Tryz.func290 ok_oxm_ones (env_nil _) fun args objs p v e => ?_
  unfold S_oxm_ones at e
  split at e
  · rename_i b n
    cases e
    refine ⟨rfl, fun hw ho hp => ?_⟩
    change List Int at b
    repeat' (intro t ht; first | (cases t <;> first | (cases ht; done) | ((try simp only [bn_s] at ht); (try simp only [nd_s] at ht))) | (refine ht ?_ ?_ <;> clear ht) | (refine ht.1 ?_ ?_ <;> clear ht) | (refine ht ?_; clear ht))
    all_goals first
      | ((try simp only [nd_s, bn_s, mm_s] at *); omega)
      | (intro r h1 h2; clear h1; refine h2 ⟨[1, 5, 13, 14, 15], Nat, (fun i => i ≤ b.length ∧ onesF b n = onesA (b.drop i) (b.length * 8 - i * 8 - n)), fun i => [.int .i64 n, .int .i64 (b.length * 8), .imm (.int .u8) b, .int .i64 b.length, .int .i64 i], fun _ => [], fun i => b.length - i, ⟨0, ⟨Nat.zero_le _, by unfold onesF; simp⟩, rfl, rfl⟩, ?_⟩; clear h2)
    rintro i ⟨hi, he⟩
    repeat' (intro t ht; first | (cases t <;> first | (cases ht; done) | ((try simp only [bn_s] at ht); (try simp only [nd_s] at ht))) | (refine ht ?_ ?_ <;> clear ht) | (refine ht.1 ?_ ?_ <;> clear ht) | (refine ht ?_; clear ht))
    all_goals first
      | ((try simp only [nd_s, bn_s, mm_s] at *); omega)
      | (have h0 : b.drop i = [] := List.drop_of_length_le (by omega)
         refine ⟨?_, rfl⟩; rw [he, h0]; rfl)
      | ((try simp only [nd_s, bn_s, mm_s] at *); split <;> omega)
      | (have hlt : i < b.length := by omega
         rw [drop_step hlt 0] at he
         first
           | (have hn : ¬ 0 < (b.length : Int) * 8 - i * 8 - n := by assumption
              have ho : ownA ((b.length : Int) * 8 - i * 8 - n) = 255 := if_neg hn
              first
                | (have hx : b.getD i 0 = 255 := by assumption
                   have h1 : onesA (b.getD i 0 :: b.drop (i + 1)) ((b.length : Int) * 8 - i * 8 - n) = onesA (b.drop (i + 1)) ((b.length : Int) * 8 - i * 8 - n - 8) := if_pos (hx.trans ho.symm)
                   refine ⟨i + 1, ⟨hlt, ?_⟩, by dsimp only; omega, rfl, rfl⟩
                   rw [he, h1]; congr 1; omega)
                | (have hx : ¬ b.getD i 0 = 255 := by assumption
                   have h1 : onesA (b.getD i 0 :: b.drop (i + 1)) ((b.length : Int) * 8 - i * 8 - n) = false := if_neg (fun e => hx (e.trans ho))
                   refine ⟨?_, rfl⟩; rw [he, h1]))
           | (have hn : 0 < (b.length : Int) * 8 - i * 8 - n := by assumption
              have ho : ownA ((b.length : Int) * 8 - i * 8 - n) = (255 : Int).fdiv (2 ^ (min (if 8 < (b.length : Int) * 8 - i * 8 - n then 8 else (b.length : Int) * 8 - i * 8 - n).toNat 8)) := if_pos hn
              first
                | (have hx : b.getD i 0 = (255 : Int).fdiv (2 ^ (min (if 8 < (b.length : Int) * 8 - i * 8 - n then 8 else (b.length : Int) * 8 - i * 8 - n).toNat 8)) := by assumption
                   have h1 : onesA (b.getD i 0 :: b.drop (i + 1)) ((b.length : Int) * 8 - i * 8 - n) = onesA (b.drop (i + 1)) ((b.length : Int) * 8 - i * 8 - n - 8) := if_pos (hx.trans ho.symm)
                   refine ⟨i + 1, ⟨hlt, ?_⟩, by dsimp only; omega, rfl, rfl⟩
                   rw [he, h1]; congr 1; omega)
                | (have hx : ¬ b.getD i 0 = (255 : Int).fdiv (2 ^ (min (if 8 < (b.length : Int) * 8 - i * 8 - n then 8 else (b.length : Int) * 8 - i * 8 - n).toNat 8)) := by assumption
                   have h1 : onesA (b.getD i 0 :: b.drop (i + 1)) ((b.length : Int) * 8 - i * 8 - n) = false := if_neg (fun e => hx (e.trans ho))
                   refine ⟨?_, rfl⟩; rw [he, h1])))
      | trace_state
  · cases e
def outA : List Int → List Int → Bool
  | x :: r, y :: l => if bitop .andNot .u8 x y = 0 then outA r l else true
  | _, _ => false
def ir_oxm_outside : IR :=
(.seq
(.keep [0, 1]
(.reg (oD 4 (.mov cF) ::
[])))
(.seq
(.seq
(.reg (oM 7 0 ::
oD 8 (.len (.t 7)) ::
oD 9 (.mov (cI 0)) ::
[]))
(.block 0
(.loop
(.seq
(.keep [1, 7, 8, 9]
(.reg (oD 10 (.bin .lss (.t 9) (.t 8)) ::
[])))
(.seq
(.cond (.t 10)
.skip
(.exit 0))
(.seq
(.block 1
(.seq
(.keep [1, 7, 8, 9]
(.reg (oM 11 9 ::
oD 12 (.indexSl 1 (.t 7) (.t 9)) ::
oL 13 12 ::
oM 5 11 ::
oM 6 13 ::
[])))
(.seq
(.keep [1, 5, 6, 7, 8, 9]
(.reg (oM 14 6 ::
oM 15 1 ::
oM 16 5 ::
oD 17 (.indexSl 1 (.t 15) (.t 16)) ::
oL 18 17 ::
oD 19 (.bin .andNot (.t 14) (.t 18)) ::
oD 20 (.bin .neq (.t 19) (.c (.int .u8 0))) ::
[])))
(.cond (.t 20)
(.seq
(.keep []
(.reg (oD 4 (.mov cT) ::
[])))
.ret)
.skip))))
(.keep [1, 7, 8, 9]
(.reg (oD 21 (.bin .add (.t 9) (cI 1)) ::
oM 9 21 ::
[])))))))))
(.seq
(.keep []
(.reg (oD 4 (.mov cF) ::
[])))
.ret)))
def rd_oxm_outside : List RD := [.tmp 4 true none]
theorem ok_oxm_outside : fnOk Tryz.prog Tryz.f291 ir_oxm_outside rd_oxm_outside = true := by kernel_rfl
def S_oxm_outside : List AV → List Obj → Option (Prop × AV)
  | [.imm (.int .u8) v, .imm (.int .u8) m], [] => some ((v.length ≤ m.length, .bool (outA v m)))
  | _, _ => none
theorem snd_oxm_outside : SoundS Tryz.prog 291 (RoF S_oxm_outside).sum := by
  refine ro_fn Tryz.func291 ok_oxm_outside (env_nil _) fun args objs p v e => ?_
  unfold S_oxm_outside at e
  split at e
  · rename_i v m
    cases e
    refine ⟨rfl, fun hw ho hp => ?_⟩
    change List Int at v
    change List Int at m
    have hl : m.length ≤ maxLen := (hw (.imm (.int .u8) m) (by simp)).2
    unfold maxLen at hl
    repeat' (intro t ht; first | (cases t <;> first | (cases ht; done) | ((try simp only [bn_s] at ht); (try simp only [nd_s] at ht))) | (refine ht ?_ ?_ <;> clear ht) | (refine ht.1 ?_ ?_ <;> clear ht) | (refine ht ?_; clear ht))
    all_goals first
      | (intro r h1 h2; clear h1; refine h2 ⟨[1, 7, 8, 9], Nat, (fun i => i ≤ v.length ∧ outA v m = outA (v.drop i) (m.drop i)), fun i => [.imm (.int .u8) m, .imm (.int .u8) v, .int .i64 v.length, .int .i64 i], fun _ => [], fun i => v.length - i, ⟨0, ⟨Nat.zero_le _, rfl⟩, rfl, rfl⟩, ?_⟩; clear h2)
    rintro i ⟨hi, he⟩
    repeat' (intro t ht; first | (cases t <;> first | (cases ht; done) | ((try simp only [bn_s] at ht); (try simp only [nd_s] at ht))) | (refine ht ?_ ?_ <;> clear ht) | (refine ht.1 ?_ ?_ <;> clear ht) | (refine ht ?_; clear ht))
    all_goals first
      | ((try simp only [nd_s, bn_s, mm_s] at *); omega)
      | (have h0 : v.drop i = [] := List.drop_of_length_le (by omega)
         refine ⟨?_, rfl⟩; rw [he, h0]; rfl)
      | (have hlt : i < v.length := by omega
         have hlm : i < m.length := by omega
         rw [drop_step hlt 0, drop_step hlm 0] at he
         first
           | (have hx : bitop .andNot .u8 (v.getD i 0) (m.getD i 0) = 0 := by assumption
              have h1 : outA (v.getD i 0 :: v.drop (i + 1)) (m.getD i 0 :: m.drop (i + 1)) = outA (v.drop (i + 1)) (m.drop (i + 1)) := if_pos hx
              exact ⟨i + 1, ⟨hlt, by rw [he, h1]⟩, by dsimp only; omega, rfl, rfl⟩)
           | (have hx : ¬ bitop .andNot .u8 (v.getD i 0) (m.getD i 0) = 0 := by assumption
              have h1 : outA (v.getD i 0 :: v.drop (i + 1)) (m.getD i 0 :: m.drop (i + 1)) = true := if_neg hx
              refine ⟨?_, rfl⟩; rw [he, h1]))
      | trace_state
  · cases e
def ir_r08_zeros : IR :=
(.seq
(.keep [0]
(.reg (oD 2 (.mov cF) ::
[])))
(.seq
(.seq
(.reg (oD 3 (.mov (cI 0)) ::
[]))
(.block 0
(.loop
(.seq
(.seq
(.keep [0, 3]
(.reg (oM 4 3 ::
oM 5 0 ::
oD 6 (.len (.t 5)) ::
oD 7 (.bin .lss (.t 4) (.t 6)) ::
[])))
(.cond (.t 7)
.skip
(.exit 0)))
(.seq
(.block 1
(.seq
(.keep [0, 3]
(.reg (oM 10 0 ::
oM 11 3 ::
oD 12 (.indexSl 1 (.t 10) (.t 11)) ::
oL 13 12 ::
oD 14 (.bin .neq (.t 13) (.c (.int .u8 0))) ::
[])))
(.cond (.t 14)
(.seq
(.reg (oD 2 (.mov cF) ::
[]))
.ret)
.skip)))
(.keep [0, 3]
(.reg (oM 8 3 ::
oD 9 (.bin .add (.t 8) (cI 1)) ::
oM 3 9 ::
[]))))))))
(.seq
(.keep []
(.reg (oD 2 (.mov cT) ::
[])))
.ret)))
def rd_r08_zeros : List RD := [.tmp 2 true none]
theorem ok_r08_zeros : fnOk Tryz.prog Tryz.f279 ir_r08_zeros rd_r08_zeros = true := by kernel_rfl
def S_r08_zeros : List AV → List Obj → Option (Prop × AV)
  | [.imm (.int .u8) b], [] => some ((True, .bool (zeroL b)))
  | _, _ => none
theorem snd_r08_zeros : SoundS Tryz.prog 279 (RoF S_r08_zeros).sum := by
  refine ro_fn Tryz.func279 ok_r08_zeros (env_nil _) fun args objs p v e => ?_
  unfold S_r08_zeros at e
  split at e
  · rename_i b
    cases e
    refine ⟨rfl, fun hw ho hp => ?_⟩
    change List Int at b
    have hl : b.length ≤ maxLen := (hw (.imm (.int .u8) b) (by simp)).2
    unfold maxLen at hl
    repeat' (intro t ht; first | (cases t <;> first | (cases ht; done) | ((try simp only [bn_s] at ht); (try simp only [nd_s] at ht))) | (refine ht ?_ ?_ <;> clear ht) | (refine ht.1 ?_ ?_ <;> clear ht) | (refine ht ?_; clear ht))
    all_goals first
      | (intro r h1 h2; clear h1; refine h2 ⟨[0, 3], Nat, (fun i => i ≤ b.length ∧ zeroL b = zeroL (b.drop i)), fun i => [.imm (.int .u8) b, .int .i64 i], fun _ => [], fun i => b.length - i, ⟨0, ⟨Nat.zero_le _, rfl⟩, rfl, rfl⟩, ?_⟩; clear h2)
    rintro i ⟨hi, he⟩
    repeat' (intro t ht; first | (cases t <;> first | (cases ht; done) | ((try simp only [bn_s] at ht); (try simp only [nd_s] at ht))) | (refine ht ?_ ?_ <;> clear ht) | (refine ht.1 ?_ ?_ <;> clear ht) | (refine ht ?_; clear ht))
    all_goals first
      | ((try simp only [nd_s, bn_s, mm_s] at *); omega)
      | (have hge : b.length ≤ i := by omega
         refine ⟨?_, rfl⟩; rw [he, List.drop_of_length_le hge]; rfl)
      | (have hlt : i < b.length := by omega
         rw [drop_step hlt 0] at he
         unfold zeroL at he
         rw [List.all_cons] at he
         first
           | (have hk : decide (b.getD i 0 = 0) = false := decide_eq_false (by assumption)
              refine ⟨?_, rfl⟩; unfold zeroL; rw [he, hk]; rfl)
           | (have hk : decide (b.getD i 0 = 0) = true := decide_eq_true (by assumption)
              rw [hk, Bool.true_and] at he
              exact ⟨i + 1, ⟨hlt, he⟩, by (try simp only [nd_s, bn_s, mm_s] at *); omega, rfl, rfl⟩))
      | trace_state
  · cases e
def inA : List Int → List Int → Bool
  | x :: r, y :: l => if bitop .and .u8 x y = x then inA r l else false
  | _, _ => true
def ir_r08_inside : IR :=
(.seq
(.keep [0, 1]
(.reg (oD 4 (.mov cF) ::
[])))
(.seq
(.seq
(.reg (oD 5 (.mov (cI 0)) ::
[]))
(.block 0
(.loop
(.seq
(.seq
(.keep [0, 1, 5]
(.reg (oM 6 5 ::
oM 7 0 ::
oD 8 (.len (.t 7)) ::
oD 9 (.bin .lss (.t 6) (.t 8)) ::
[])))
(.cond (.t 9)
.skip
(.exit 0)))
(.seq
(.block 1
(.seq
(.keep [0, 1, 5]
(.regD ((oM 12 0, []) ::
(oM 13 5, [0]) ::
(oD 14 (.indexSl 1 (.t 12) (.t 13)), []) ::
(oL 15 14, []) ::
(oM 16 1, [0, 0, 0, 0]) ::
(oM 17 5, [0, 0, 0, 0, 0]) ::
(oD 18 (.indexSl 1 (.t 16) (.t 17)), [2, 0, 0, 0]) ::
(oL 19 18, [3, 0, 0, 0]) ::
(oD 20 (.bin .and (.t 15) (.t 19)), []) ::
(oM 21 0, [0, 0, 0, 0, 0, 0, 0, 0, 0]) ::
(oM 22 5, [0, 0, 0, 0, 0, 0, 0, 0, 0, 0]) ::
(oD 23 (.indexSl 1 (.t 21) (.t 22)), [2, 0, 0, 0, 0, 0, 0, 0, 0]) ::
(oL 24 23, [3, 0, 0, 0, 0, 0, 0, 0, 0]) ::
(oD 25 (.bin .neq (.t 20) (.t 24)), []) ::
[])))
(.cond (.t 25)
(.seq
(.keep []
(.reg (oD 4 (.mov cF) ::
[])))
.ret)
.skip)))
(.keep [0, 1, 5]
(.reg (oM 10 5 ::
oD 11 (.bin .add (.t 10) (cI 1)) ::
oM 5 11 ::
[]))))))))
(.seq
(.keep []
(.reg (oD 4 (.mov cT) ::
[])))
.ret)))
def rd_r08_inside : List RD := [.tmp 4 true none]
theorem ok_r08_inside : fnOk Tryz.prog Tryz.f281 ir_r08_inside rd_r08_inside = true := by kernel_rfl
def S_r08_inside : List AV → List Obj → Option (Prop × AV)
  | [.imm (.int .u8) v, .imm (.int .u8) m], [] => some ((v.length ≤ m.length, .bool (inA v m)))
  | _, _ => none
theorem snd_r08_inside : SoundS Tryz.prog 281 (RoF S_r08_inside).sum := by
  refine ro_fn Tryz.func281 ok_r08_inside (env_nil _) fun args objs p v e => ?_
  unfold S_r08_inside at e
  split at e
  · rename_i v m
    cases e
    refine ⟨rfl, fun hw ho hp => ?_⟩
    change List Int at v
    change List Int at m
    have hl : m.length ≤ maxLen := (hw (.imm (.int .u8) m) (by simp)).2
    unfold maxLen at hl
    repeat' (intro t ht; first | (cases t <;> first | (cases ht; done) | ((try simp only [bn_s] at ht); (try simp only [nd_s] at ht))) | (refine ht ?_ ?_ <;> clear ht) | (refine ht.1 ?_ ?_ <;> clear ht) | (refine ht ?_; clear ht))
    all_goals first
      | (intro r h1 h2; clear h1; refine h2 ⟨[0, 1, 5], Nat, (fun i => i ≤ v.length ∧ inA v m = inA (v.drop i) (m.drop i)), fun i => [.imm (.int .u8) v, .imm (.int .u8) m, .int .i64 i], fun _ => [], fun i => v.length - i, ⟨0, ⟨Nat.zero_le _, rfl⟩, rfl, rfl⟩, ?_⟩; clear h2)
    rintro i ⟨hi, he⟩
    repeat' (intro t ht; first | (cases t <;> first | (cases ht; done) | ((try simp only [bn_s] at ht); (try simp only [nd_s] at ht))) | (refine ht ?_ ?_ <;> clear ht) | (refine ht.1 ?_ ?_ <;> clear ht) | (refine ht ?_; clear ht))
    all_goals first
      | ((try simp only [nd_s, bn_s, mm_s] at *); omega)
      | (have h0 : v.drop i = [] := List.drop_of_length_le (by omega)
         refine ⟨?_, rfl⟩; rw [he, h0]; rfl)
      | (have hlt : i < v.length := by omega
         have hlm : i < m.length := by omega
         rw [drop_step hlt 0, drop_step hlm 0] at he
         first
           | (have hx : bitop .and .u8 (v.getD i 0) (m.getD i 0) = v.getD i 0 := by assumption
              have h1 : inA (v.getD i 0 :: v.drop (i + 1)) (m.getD i 0 :: m.drop (i + 1)) = inA (v.drop (i + 1)) (m.drop (i + 1)) := if_pos hx
              exact ⟨i + 1, ⟨hlt, by rw [he, h1]⟩, by dsimp only; omega, rfl, rfl⟩)
           | (have hx : ¬ bitop .and .u8 (v.getD i 0) (m.getD i 0) = v.getD i 0 := by assumption
              have h1 : inA (v.getD i 0 :: v.drop (i + 1)) (m.getD i 0 :: m.drop (i + 1)) = false := if_neg hx
              refine ⟨?_, rfl⟩; rw [he, h1]))
      | trace_state
  · cases e
def refO (b : List Int) : Nat → Int → Bool
  | 0, _ => true
  | f + 1, i => if bitop .and .u8 ((b.getD (b.length - 1 - i.tdiv 8 : Int).toNat 0).fdiv (2 ^ (min (i.tmod 8).toNat 8))) 1 = 0 then false else refO b f (i + 1)
theorem refO_f {b : List Int} {f : Nat} {i : Int} (h : bitop .and .u8 ((b.getD (b.length - 1 - i.tdiv 8 : Int).toNat 0).fdiv (2 ^ (min (i.tmod 8).toNat 8))) 1 = 0) : refO b (f + 1) i = false := if_pos h
theorem refO_t {b : List Int} {f : Nat} {i : Int} (h : ¬ bitop .and .u8 ((b.getD (b.length - 1 - i.tdiv 8 : Int).toNat 0).fdiv (2 ^ (min (i.tmod 8).toNat 8))) 1 = 0) : refO b (f + 1) i = refO b f (i + 1) := if_neg h
def ir_r08_ones : IR :=
(.seq
(.keep [0, 1]
(.reg (oD 4 (.mov cF) ::
[])))
(.seq
(.seq
(.reg (oD 5 (.mov (cI 0)) ::
[]))
(.block 0
(.loop
(.seq
(.seq
(.keep [0, 1, 5]
(.reg (oM 6 5 ::
oM 7 1 ::
oD 8 (.bin .lss (.t 6) (.t 7)) ::
[])))
(.cond (.t 8)
.skip
(.exit 0)))
(.seq
(.block 1
(.seq
(.keep [0, 1, 5]
(.reg (oM 11 0 ::
oM 12 0 ::
oD 13 (.len (.t 12)) ::
oD 14 (.bin .sub (.t 13) (cI 1)) ::
oM 15 5 ::
oD 16 (.bin .quo (.t 15) (cI 8)) ::
oD 17 (.bin .sub (.t 14) (.t 16)) ::
oD 18 (.indexSl 1 (.t 11) (.t 17)) ::
oL 19 18 ::
oM 20 5 ::
oD 21 (.bin .rem (.t 20) (cI 8)) ::
oD 22 (.bin .shr (.t 19) (.t 21)) ::
oD 23 (.bin .and (.t 22) (.c (.int .u8 1))) ::
oD 24 (.bin .eql (.t 23) (.c (.int .u8 0))) ::
[])))
(.cond (.t 24)
(.seq
(.keep []
(.reg (oD 4 (.mov cF) ::
[])))
.ret)
.skip)))
(.keep [0, 1, 5]
(.reg (oM 9 5 ::
oD 10 (.bin .add (.t 9) (cI 1)) ::
oM 5 10 ::
[]))))))))
(.seq
(.keep []
(.reg (oD 4 (.mov cT) ::
[])))
.ret)))
def rd_r08_ones : List RD := [.tmp 4 true none]
theorem ok_r08_ones : fnOk Tryz.prog Tryz.f280 ir_r08_ones rd_r08_ones = true := by kernel_rfl
def S_r08_ones : List AV → List Obj → Option (Prop × AV)
  | [.imm (.int .u8) b, .int .i64 n], [] => some ((0 ≤ n ∧ n ≤ 8 * b.length ∧ b.length ≤ 1000000, .bool (refO b n.toNat 0)))
  | _, _ => none
theorem snd_r08_ones : SoundS Tryz.prog 280 (RoF S_r08_ones).sum := by
  refine ro_fn Tryz.func280 ok_r08_ones (env_nil _) fun args objs p v e => ?_
  unfold S_r08_ones at e
  split at e
  · rename_i b n
    cases e
    refine ⟨rfl, fun hw ho hp => ?_⟩
    change List Int at b
    repeat' (intro t ht; first | (cases t <;> first | (cases ht; done) | ((try simp only [bn_s] at ht); (try simp only [nd_s] at ht))) | (refine ht ?_ ?_ <;> clear ht) | (refine ht.1 ?_ ?_ <;> clear ht) | (refine ht ?_; clear ht))
    all_goals first
      | (intro r h1 h2; clear h1; refine h2 ⟨[0, 1, 5], Nat, (fun i => (i : Int) ≤ n ∧ refO b n.toNat 0 = refO b (n.toNat - i) i), fun i => [.imm (.int .u8) b, .int .i64 n, .int .i64 i], fun _ => [], fun i => n.toNat - i, ⟨0, ⟨hp.1, rfl⟩, rfl, rfl⟩, ?_⟩; clear h2)
    rintro i ⟨hi, he⟩
    have htd : (i : Int).tdiv 8 = i / 8 := tdiv_nn (by omega)
    have htm : (i : Int).tmod 8 = i % 8 := tmod_nn (by omega)
    repeat' (intro t ht; first | (cases t <;> first | (cases ht; done) | ((try simp only [bn_s] at ht); (try simp only [nd_s] at ht))) | (refine ht ?_ ?_ <;> clear ht) | (refine ht.1 ?_ ?_ <;> clear ht) | (refine ht ?_; clear ht))
    all_goals first
      | exact (by decide)
      | ((try simp only [nd_s, bn_s, mm_s] at *); omega)
      | ((try simp only [nd_s, bn_s, mm_s] at *); simp only [htd, htm]; omega)
      | (have h0 : n.toNat - i = 0 := by omega
         refine ⟨?_, rfl⟩; rw [he, h0]; rfl)
      | (have h1 : n.toNat - i = (n.toNat - (i + 1)) + 1 := by omega
         rw [h1] at he
         first
           | (have hf := refO_f (f := n.toNat - (i + 1)) (b := b) (i := i) (by assumption)
              refine ⟨?_, rfl⟩; rw [he, hf])
           | (have hf := refO_t (f := n.toNat - (i + 1)) (b := b) (i := i) (by assumption)
              exact ⟨i + 1, ⟨by omega, by rw [he, hf]; rfl⟩, by dsimp only; omega, rfl, rfl⟩))
      | trace_state
  · cases e
def ofOk (c f : Int) : Bool := if c = 65535 then decide (0 ≤ f) && decide (f ≤ 127) else fIs f && decide (c = 32768)
def ofSize (c f : Int) : Int := if c = 65535 then 100 else fSize f
def ofBits (c f : Int) : Int := if c = 65535 then 0 else fBits f
def ofMask (c f : Int) : Bool := if c = 65535 then true else fMask f
def ofExtra (c : Int) : Bool := decide (c = 65535)
theorem fK : ∀ k < 40, 0 ≤ fSize (k : Nat) ∧ fSize (k : Nat) ≤ 16 ∧ 0 ≤ fBits (k : Nat) ∧ fBits (k : Nat) ≤ 128 := by decide +kernel
theorem f_le (f : Int) : 0 ≤ fSize f ∧ fSize f ≤ 16 ∧ 0 ≤ fBits f ∧ fBits f ≤ 128 := by
  cases h : fIs f with
  | true =>
    have hn := fIs_t.1 h
    have := fK f.toNat (by omega)
    rwa [Int.toNat_of_nonneg hn.1] at this
  | false => unfold fSize fBits; rw [h]; simp
theorem of_le (c f : Int) : 0 ≤ ofSize c f ∧ ofSize c f ≤ 100 ∧ 0 ≤ ofBits c f ∧ ofBits c f ≤ 128 := by
  have := f_le f
  unfold ofSize ofBits; split <;> omega
def ir_oxm_of : IR :=
(.seq
(.keep [0]
(.reg (oD 1 (.boxv (.t 0)) ::
oD 2 (.box [.int .i64 0, .int .i64 0, .kb false, .kb false]) ::
oD 3 (.mov cF) ::
[])))
(.seq
(.seq
(.reg (oD 6 (.fieldAddr 0 (.t 1)) ::
oL 7 6 ::
oD 8 (.bin .eql (.t 7) (cI 65535)) ::
[]))
(.cond (.t 8)
(.seq
(.keep [1, 2]
(.regD ((oD 9 (.build [.int .i64 0, .int .i64 0, .kb false, .kb false] [(0, 1, (cI 100)), (2, 1, cT), (3, 1, cT)]), []) ::
(oD 10 (.fieldAddr 1 (.t 1)), [0]) ::
(oL 11 10, [1]) ::
(oD 12 (.bin .geq (.t 11) (cI 0)), [2]) ::
(oM 13 12, [3]) ::
(oT 13 14 (.fieldAddr 1 (.t 1)), [4]) ::
(oT 13 15 (.load none (.t 14)), [5]) ::
(oT 13 16 (.bin .leq (.t 15) (cI 127)), [6]) ::
(oD 17 (.pick (.t 13) (.t 16) cF), [7]) ::
(oN (.store 4 (.t 2) (.t 9)), [0, 0, 0, 0]) ::
(oM 3 17, []) ::
[])))
.ret)
.skip))
(.seq
(.keep [1, 2]
(.reg (oD 19 (.fieldAddr 1 (.t 1)) ::
oL 20 19 ::
oD 21 (.call false (.f 287) [(.t 20)]) ::
oM 18 21 ::
oD 22 (.extract (.t 18) 0) ::
oD 23 (.extract (.t 18) 1) ::
oD 4 (.box [.int .i64 0, .int .i64 0, .kb false, .int .i64 0, .imm (.int .u64) []]) ::
oN (.store 5 (.t 4) (.t 22)) ::
oM 5 23 ::
[])))
(.seq
(.keep [1, 2, 4, 5]
(.regD ((oD 24 (.fieldAddr 1 (.t 4)), []) ::
(oL 25 24, []) ::
(oD 26 (.fieldAddr 0 (.t 4)), [0, 0]) ::
(oL 27 26, [1, 0]) ::
(oD 28 (.fieldAddr 2 (.t 4)), [0, 0, 0, 0]) ::
(oL 29 28, [1, 0, 0, 0]) ::
(oD 30 (.build [.int .i64 0, .int .i64 0, .kb false, .kb false] [(0, 1, (.t 25)), (1, 1, (.t 27)), (2, 1, (.t 29))]), []) ::
(oM 31 5, [0, 0, 0, 0, 0, 0, 0]) ::
(oM 32 31, [1, 0, 0, 0, 0, 0, 0]) ::
(oT 32 33 (.fieldAddr 0 (.t 1)), [2, 0, 0, 0, 0, 0, 0]) ::
(oT 32 34 (.load none (.t 33)), [3, 0, 0, 0, 0, 0, 0]) ::
(oT 32 35 (.bin .eql (.t 34) (cI 32768)), [4, 0, 0, 0, 0, 0, 0]) ::
(oD 36 (.pick (.t 32) (.t 35) cF), [5, 0, 0, 0, 0, 0, 0]) ::
(oN (.store 4 (.t 2) (.t 30)), [0, 0, 0, 0]) ::
(oM 3 36, []) ::
[])))
.ret))))
def rd_oxm_of : List RD := [.cell 2 (some 4) true [], .tmp 3 true none]
theorem ok_oxm_of : fnOk Tryz.prog Tryz.f272 ir_oxm_of rd_oxm_of = true := by kernel_rfl
def S_oxm_of : List AV → List Obj → Option (Prop × AV)
  | [.agg [.int .i64 c, .int .i64 f, .bool h, .int .u64 x, .imm (.int .u8) v, .imm (.int .u8) m]], [] => some ((True, .tup [.agg [.int .i64 (ofSize c f), .int .i64 (ofBits c f), .bool (ofMask c f), .bool (ofExtra c)], .bool (ofOk c f)]))
  | _, _ => none
theorem snd_oxm_of : SoundS Tryz.prog 272 (RoF S_oxm_of).sum := by
  refine ro_fn Tryz.func272 ok_oxm_of (env_cons (s := RoF S_field_Of) snd_field_Of (env_nil _)) fun args objs p v e => ?_
  unfold S_oxm_of at e
  split at e
  · rename_i c f h x v m
    cases e
    refine ⟨rfl, fun hw ho hp => ?_⟩
    change List Int at v
    change List Int at m
    repeat' (intro t ht; first | (cases t <;> first | (cases ht; done) | ((try simp only [bn_s] at ht); (try simp only [nd_s] at ht))) | (refine ht ?_ ?_ <;> clear ht) | (refine ht.1 ?_ ?_ <;> clear ht) | (refine ht ?_; clear ht))
    all_goals first
      | exact True.intro
      | (simp_all [ofOk, ofSize, ofBits, ofMask, ofExtra]; done)
      | (simp_all [ofOk, ofSize, ofBits, ofMask, ofExtra]; omega)
      | trace_state
  · cases e
def wrongF (f : Int) (h : Bool) (v m : List Int) (bits : Int) (ex : Bool) : Int :=
  if ex = false ∧ fitsF f v = false then 1032 else if h = true ∧ ex = false ∧ fitsF f m = false then 1033
  else if h = true ∧ (zeroL m = true ∨ onesF m (if ex = true then m.length * 8 else bits) = true) then 1033 else if h = true ∧ outA v m = true then 1030 else 0
def ir_oxm_wrong : IR :=
(.seq
(.keep [0, 1]
(.reg (oD 2 (.boxv (.t 0)) ::
oD 3 (.boxv (.t 1)) ::
oD 4 (.mov (cI 0)) ::
[])))
(.seq
(.seq
(.reg (oD 5 (.fieldAddr 3 (.t 3)) ::
oL 6 5 ::
[]))
(.cond (.t 6)
(.keep [2, 3]
(.reg (oD 7 (.fieldAddr 5 (.t 2)) ::
oL 8 7 ::
oD 9 (.len (.t 8)) ::
oD 10 (.bin .mul (.t 9) (cI 8)) ::
oD 11 (.fieldAddr 1 (.t 3)) ::
oN (.store 1 (.t 11) (.t 10)) ::
[])))
.skip))
(.seq
(.block 0
(.seq
(.block 3
(.block 2
(.seq
(.block 1
(.seq
(.seq
(.seq
(.keep [2, 3]
(.reg (oD 13 (.fieldAddr 3 (.t 3)) ::
oL 14 13 ::
oD 15 (.un .not (.t 14)) ::
oM 16 15 ::
oT 16 17 (.fieldAddr 1 (.t 2)) ::
oT 16 18 (.load none (.t 17)) ::
oT 16 19 (.fieldAddr 4 (.t 2)) ::
oT 16 20 (.load none (.t 19)) ::
oT 16 21 (.call false (.f 288) [(.t 18), (.t 20)]) ::
oT 16 22 (.un .not (.t 21)) ::
oD 23 (.pick (.t 16) (.t 22) cF) ::
oM 12 23 ::
[])))
(.cond (.t 12)
(.exit 1)
.skip))
(.seq
(.seq
(.keep [2, 3]
(.reg (oD 25 (.fieldAddr 2 (.t 2)) ::
oL 26 25 ::
oM 27 26 ::
oT 27 28 (.fieldAddr 3 (.t 3)) ::
oT 27 29 (.load none (.t 28)) ::
oT 27 30 (.un .not (.t 29)) ::
oD 31 (.pick (.t 27) (.t 30) cF) ::
oM 32 31 ::
oT 32 33 (.fieldAddr 1 (.t 2)) ::
oT 32 34 (.load none (.t 33)) ::
oT 32 35 (.fieldAddr 5 (.t 2)) ::
oT 32 36 (.load none (.t 35)) ::
oT 32 37 (.call false (.f 288) [(.t 34), (.t 36)]) ::
oT 32 38 (.un .not (.t 37)) ::
oD 39 (.pick (.t 32) (.t 38) cF) ::
oM 24 39 ::
[])))
(.cond (.t 24)
(.exit 2)
.skip))
(.seq
(.keep [2, 3]
(.reg (oD 41 (.fieldAddr 2 (.t 2)) ::
oL 42 41 ::
oM 43 42 ::
oT 43 44 (.fieldAddr 5 (.t 2)) ::
oT 43 45 (.load none (.t 44)) ::
oT 43 46 (.call false (.f 289) [(.t 45)]) ::
oT 43 47 (.mov (.t 46)) ::
oF 47 48 (.fieldAddr 5 (.t 2)) ::
oF 47 49 (.load none (.t 48)) ::
oF 47 50 (.fieldAddr 1 (.t 3)) ::
oF 47 51 (.load none (.t 50)) ::
oF 47 52 (.call false (.f 290) [(.t 49), (.t 51)]) ::
oT 43 53 (.pick (.t 47) cT (.t 52)) ::
oD 54 (.pick (.t 43) (.t 53) cF) ::
oM 40 54 ::
[])))
(.cond (.t 40)
(.exit 3)
.skip))))
(.exit 0)))
(.seq
(.seq
(.keep []
(.reg (oD 4 (.mov (cI 1032)) ::
[])))
.ret)
(.exit 0)))))
(.seq
(.seq
(.keep []
(.reg (oD 4 (.mov (cI 1033)) ::
[])))
.ret)
(.exit 0))))
(.seq
(.seq
(.keep [2]
(.reg (oD 55 (.fieldAddr 2 (.t 2)) ::
oL 56 55 ::
oM 57 56 ::
oT 57 58 (.fieldAddr 4 (.t 2)) ::
oT 57 59 (.load none (.t 58)) ::
oT 57 60 (.fieldAddr 5 (.t 2)) ::
oT 57 61 (.load none (.t 60)) ::
oT 57 62 (.call false (.f 291) [(.t 59), (.t 61)]) ::
oD 63 (.pick (.t 57) (.t 62) cF) ::
[])))
(.cond (.t 63)
(.seq
(.keep []
(.reg (oD 4 (.mov (cI 1030)) ::
[])))
.ret)
.skip))
(.seq
(.keep []
(.reg (oD 4 (.mov (cI 0)) ::
[])))
.ret)))))
def rd_oxm_wrong : List RD := [.tmp 4 true none]
theorem ok_oxm_wrong : fnOk Tryz.prog Tryz.f273 ir_oxm_wrong rd_oxm_wrong = true := by kernel_rfl
def S_oxm_wrong : List AV → List Obj → Option (Prop × AV)
  | [.agg [.int .i64 c, .int .i64 f, .bool h, .int .u64 x, .imm (.int .u8) v, .imm (.int .u8) m], .agg [.int .i64 sz, .int .i64 bits, .bool mk, .bool ex]], [] => some (((h = true → v.length ≤ m.length) ∧ m.length ≤ 100000 ∧ 0 ≤ bits ∧ bits ≤ 1000000, .int .i64 (wrongF f h v m bits ex)))
  | _, _ => none
theorem snd_oxm_wrong : SoundS Tryz.prog 273 (RoF S_oxm_wrong).sum := by
  refine ro_fn Tryz.func273 ok_oxm_wrong (env_cons (s := RoF S_field_Fits) snd_field_Fits (env_cons (s := RoF S_oxm_blank) snd_oxm_blank (env_cons (s := RoF S_oxm_ones) snd_oxm_ones (env_cons (s := RoF S_oxm_outside) snd_oxm_outside (env_nil _))))) fun args objs p v e => ?_
  unfold S_oxm_wrong at e
  split at e
  · rename_i c f h x v m sz bits mk ex
    cases e
    refine ⟨rfl, fun hw ho hp => ?_⟩
    change List Int at v
    change List Int at m
    cases h <;> cases ex
    all_goals repeat' (intro t ht; first | (cases t <;> first | (cases ht; done) | ((try simp only [bn_s] at ht); (try simp only [nd_s] at ht))) | (refine ht ?_ ?_ <;> clear ht) | (refine ht.1 ?_ ?_ <;> clear ht) | (refine ht ?_; clear ht))
    all_goals first
      | exact True.intro
      | exact hp.1 rfl
      | ((try simp only [nd_s, bn_s, mm_s] at *); omega)
      | (unfold wrongF; simp_all; done)
      | trace_state
  · cases e
def restO (c : Int) (v m : List Int) : Int := if c = 65535 then (v.length : Int) + m.length + 4 else (v.length : Int) + m.length
def rightO (c f : Int) (h : Bool) (x : Int) (v m : List Int) : Bool :=
  ofOk c f && (!h || ofMask c f) && (ofExtra c || decide (x = 0)) && decide (x.fdiv (2 ^ (min (Int.toNat 32) IntKind.u64.bits)) = 0) &&
    (match h with | true => decide ((m.length : Int) = v.length) | false => decide (m.length = 0)) && decide ((v.length : Int) ≤ ofSize c f) && decide (wrongF f h v m (ofBits c f) (ofExtra c) = 0)
def ir_oxm_Right : IR :=
(.seq
(.keep [0]
(.reg (oD 1 (.boxv (.t 0)) ::
oD 2 (.mov cF) ::
[])))
(.seq
(.keep [1]
(.reg (oD 6 (.load (some 6) (.t 1)) ::
oD 7 (.call false (.f 272) [(.t 6)]) ::
oM 5 7 ::
oD 8 (.extract (.t 5) 0) ::
oD 9 (.extract (.t 5) 1) ::
oD 3 (.box [.int .i64 0, .int .i64 0, .kb false, .kb false]) ::
oN (.store 4 (.t 3) (.t 8)) ::
oM 4 9 ::
[])))
(.seq
(.block 0
(.seq
(.block 4
(.seq
(.block 3
(.block 2
(.seq
(.block 1
(.seq
(.seq
(.seq
(.keep [1, 3, 4]
(.reg (oM 11 4 ::
oD 12 (.un .not (.t 11)) ::
oM 13 12 ::
oF 13 14 (.fieldAddr 2 (.t 1)) ::
oF 13 15 (.load none (.t 14)) ::
oF 13 16 (.mov (.t 15)) ::
oT 16 17 (.fieldAddr 2 (.t 3)) ::
oT 16 18 (.load none (.t 17)) ::
oT 16 19 (.un .not (.t 18)) ::
oF 13 20 (.pick (.t 16) (.t 19) cF) ::
oD 21 (.pick (.t 13) cT (.t 20)) ::
oM 10 21 ::
[])))
(.cond (.t 10)
(.exit 1)
.skip))
(.seq
(.seq
(.keep [1, 3]
(.reg (oD 23 (.fieldAddr 3 (.t 3)) ::
oL 24 23 ::
oD 25 (.un .not (.t 24)) ::
oM 26 25 ::
oT 26 27 (.fieldAddr 3 (.t 1)) ::
oT 26 28 (.load none (.t 27)) ::
oT 26 29 (.bin .neq (.t 28) (.c (.int .u64 0))) ::
oD 30 (.pick (.t 26) (.t 29) cF) ::
oM 22 30 ::
[])))
(.cond (.t 22)
(.exit 2)
.skip))
(.seq
(.seq
(.keep [1, 3]
(.reg (oD 32 (.fieldAddr 3 (.t 1)) ::
oL 33 32 ::
oD 34 (.bin .shr (.t 33) (.c (.int .u64 32))) ::
oD 35 (.bin .neq (.t 34) (.c (.int .u64 0))) ::
oM 31 35 ::
[])))
(.cond (.t 31)
(.exit 3)
.skip))
(.seq
(.keep [1, 3]
(.reg (oD 37 (.fieldAddr 2 (.t 1)) ::
oL 38 37 ::
oM 39 38 ::
oT 39 40 (.fieldAddr 5 (.t 1)) ::
oT 39 41 (.load none (.t 40)) ::
oT 39 42 (.len (.t 41)) ::
oT 39 43 (.fieldAddr 4 (.t 1)) ::
oT 39 44 (.load none (.t 43)) ::
oT 39 45 (.len (.t 44)) ::
oT 39 46 (.bin .neq (.t 42) (.t 45)) ::
oD 47 (.pick (.t 39) (.t 46) cF) ::
oM 48 47 ::
oF 48 49 (.fieldAddr 2 (.t 1)) ::
oF 48 50 (.load none (.t 49)) ::
oF 48 51 (.un .not (.t 50)) ::
oF 48 52 (.mov (.t 51)) ::
oT 52 53 (.fieldAddr 5 (.t 1)) ::
oT 52 54 (.load none (.t 53)) ::
oT 52 55 (.len (.t 54)) ::
oT 52 56 (.bin .gtr (.t 55) (cI 0)) ::
oF 48 57 (.pick (.t 52) (.t 56) cF) ::
oD 58 (.pick (.t 48) cT (.t 57)) ::
oM 59 58 ::
oF 59 60 (.fieldAddr 4 (.t 1)) ::
oF 59 61 (.load none (.t 60)) ::
oF 59 62 (.len (.t 61)) ::
oF 59 63 (.fieldAddr 0 (.t 3)) ::
oF 59 64 (.load none (.t 63)) ::
oF 59 65 (.bin .gtr (.t 62) (.t 64)) ::
oD 66 (.pick (.t 59) cT (.t 65)) ::
oM 36 66 ::
[])))
(.cond (.t 36)
(.exit 4)
.skip)))))
(.exit 0)))
(.seq
(.seq
(.keep []
(.reg (oD 2 (.mov cF) ::
[])))
.ret)
(.exit 0)))))
(.seq
(.seq
(.keep []
(.reg (oD 2 (.mov cF) ::
[])))
.ret)
(.exit 0))))
(.seq
(.seq
(.keep []
(.reg (oD 2 (.mov cF) ::
[])))
.ret)
(.exit 0))))
(.seq
(.keep [1, 3]
(.reg (oD 67 (.load (some 6) (.t 1)) ::
oD 68 (.load (some 4) (.t 3)) ::
oD 69 (.call false (.f 273) [(.t 67), (.t 68)]) ::
oD 70 (.bin .eql (.t 69) (cI 0)) ::
oM 2 70 ::
[])))
.ret))))
def rd_oxm_Right : List RD := [.tmp 2 true none]
theorem ok_oxm_Right : fnOk Tryz.prog Tryz.f246 ir_oxm_Right rd_oxm_Right = true := by kernel_rfl
def S_oxm_Right : List AV → List Obj → Option (Prop × AV)
  | [.agg [.int .i64 c, .int .i64 f, .bool h, .int .u64 x, .imm (.int .u8) v, .imm (.int .u8) m]], [] => some ((v.length ≤ 1000000 ∧ m.length ≤ 1000000, .bool (rightO c f h x v m)))
  | _, _ => none
theorem snd_oxm_Right : SoundS Tryz.prog 246 (RoF S_oxm_Right).sum := by
  refine ro_fn Tryz.func246 ok_oxm_Right (env_cons (s := RoF S_oxm_of) snd_oxm_of (env_cons (s := RoF S_oxm_wrong) snd_oxm_wrong (env_nil _))) fun args objs p v e => ?_
  unfold S_oxm_Right at e
  split at e
  · rename_i c f h x v m
    cases e
    refine ⟨rfl, fun hw ho hp => ?_⟩
    change List Int at v
    change List Int at m
    have hof := of_le c f
    cases h
    all_goals repeat' (intro t ht; first | (cases t <;> first | (cases ht; done) | ((try simp only [bn_s] at ht); (try simp only [nd_s] at ht))) | (refine ht ?_ ?_ <;> clear ht) | (refine ht.1 ?_ ?_ <;> clear ht) | (refine ht ?_; clear ht))
    all_goals first
      | exact True.intro
      | exact (by decide)
      | (refine ⟨fun h => ?_, ?_, ?_, ?_⟩ <;> first | omega | (cases h; done))
      | (unfold rightO; simp_all; done)
      | (have h0 : ¬ m.length = 0 := by omega
         unfold rightO; simp_all; done)
      | (unfold rightO; simp_all; omega)
      | trace_state
  · cases e
def ir_oxm_rest : IR :=
(.seq
(.keep [0]
(.reg (oD 1 (.boxv (.t 0)) ::
oD 2 (.mov (cI 0)) ::
[])))
(.seq
(.keep [1]
(.reg (oD 4 (.fieldAddr 4 (.t 1)) ::
oL 5 4 ::
oD 6 (.len (.t 5)) ::
oD 7 (.fieldAddr 5 (.t 1)) ::
oL 8 7 ::
oD 9 (.len (.t 8)) ::
oD 10 (.bin .add (.t 6) (.t 9)) ::
oM 3 10 ::
[])))
(.seq
(.seq
(.keep [1, 3]
(.reg (oD 11 (.fieldAddr 0 (.t 1)) ::
oL 12 11 ::
oD 13 (.bin .eql (.t 12) (cI 65535)) ::
[])))
(.cond (.t 13)
(.reg (oM 14 3 ::
oD 15 (.bin .add (.t 14) (cI 4)) ::
oM 3 15 ::
[]))
.skip))
(.seq
(.keep [3]
(.reg (oM 16 3 ::
oM 2 16 ::
[])))
.ret))))
def rd_oxm_rest : List RD := [.tmp 2 true none]
theorem ok_oxm_rest : fnOk Tryz.prog Tryz.f248 ir_oxm_rest rd_oxm_rest = true := by kernel_rfl
def S_oxm_rest : List AV → List Obj → Option (Prop × AV)
  | [.agg [.int .i64 c, .int .i64 f, .bool h, .int .u64 x, .imm (.int .u8) v, .imm (.int .u8) m]], [] => some ((v.length ≤ 1000000 ∧ m.length ≤ 1000000, .int .i64 (restO c v m)))
  | _, _ => none
theorem snd_oxm_rest : SoundS Tryz.prog 248 (RoF S_oxm_rest).sum := by
  refine ro_fn Tryz.func248 ok_oxm_rest (env_nil _) fun args objs p v e => ?_
  unfold S_oxm_rest at e
  split at e
  · rename_i c f h x v m
    cases e
    refine ⟨rfl, fun hw ho hp => ?_⟩
    change List Int at v
    change List Int at m
    repeat' (intro t ht; first | (cases t <;> first | (cases ht; done) | ((try simp only [bn_s] at ht); (try simp only [nd_s] at ht))) | (refine ht ?_ ?_ <;> clear ht) | (refine ht.1 ?_ ?_ <;> clear ht) | (refine ht ?_; clear ht))
    all_goals first
      | ((try simp only [nd_s, bn_s, mm_s] at *); omega)
      | (unfold restO; simp_all; done)
      | trace_state
  · cases e
theorem right_len {c f : Int} {h : Bool} {x : Int} {v m : List Int} (hr : rightO c f h x v m = true) : (v.length : Int) ≤ ofSize c f ∧ (h = true → (m.length : Int) = v.length) ∧ (h = false → m.length = 0) ∧ ofOk c f = true ∧ (h = true → ofMask c f = true) ∧ (ofExtra c = true ∨ x = 0) ∧ x.fdiv (2 ^ (min (Int.toNat 32) IntKind.u64.bits)) = 0 ∧ wrongF f h v m (ofBits c f) (ofExtra c) = 0 := by
  unfold rightO at hr
  simp only [Bool.and_eq_true, Bool.or_eq_true, decide_eq_true_eq] at hr
  obtain ⟨⟨⟨⟨⟨⟨a1, a2⟩, a3⟩, a4⟩, a5⟩, a6⟩, a7⟩ := hr
  cases h with
  | true => exact ⟨a6, fun _ => of_decide_eq_true a5, fun h => (by cases h), a1, fun _ => a2.resolve_left (by simp), a3, a4, a7⟩
  | false => exact ⟨a6, fun h => (by cases h), fun _ => of_decide_eq_true a5, a1, fun h => (by cases h), a3, a4, a7⟩
end Go.Eng
namespace Go.Eng
open Go.Proofs
set_option linter.unusedVariables false
set_option linter.unusedSimpArgs false
set_option maxRecDepth 100000
set_option maxHeartbeats 1000000
theorem ref_fit {f : Int} {v : List Int} (h : refFitsF f v = true) : (v.length : Int) = sizeR f ∧ 0 ≤ bitsR f ∧ bitsR f ≤ 8 * sizeR f ∧ sizeR f ≤ 16 := by
  unfold refFitsF at h
  split at h
  · rename_i hh
    have hn := fIs_t.1 hh.1
    have := tab_le f.toNat (by omega)
    rw [Int.toNat_of_nonneg hn.1] at this
    omega
  · cases h
def refW (c f : Int) (h : Bool) (v m : List Int) : Int :=
  if c = 32768 ∧ refFitsF f v = false then 1032 else if h = true ∧ c = 32768 ∧ refFitsF f m = false then 1033
  else if h = true ∧ (zeroL m = true ∨ refO m (if c = 32768 then bitsR f else 8 * m.length).toNat 0 = true) then 1033 else if h = true ∧ inA v m = false then 1030 else 0
def ir_r08_Wrong : IR :=
(.seq
(.keep [0]
(.reg (oD 1 (.boxv (.t 0)) ::
oD 2 (.mov (cI 0)) ::
[])))
(.seq
(.keep [1]
(.reg (oD 7 (.fieldAddr 1 (.t 1)) ::
oL 8 7 ::
oD 9 (.call false (.f 250) [(.t 8)]) ::
oM 6 9 ::
oD 10 (.extract (.t 6) 0) ::
oD 11 (.extract (.t 6) 1) ::
oD 3 (.box [.str [], .int .i64 0, .int .i64 0, .kb false, .int .i64 0, .imm (.int .u64) []]) ::
oN (.store 6 (.t 3) (.t 10)) ::
oM 4 11 ::
[])))
(.seq
(.keep [1, 3]
(.reg (oD 12 (.fieldAddr 5 (.t 1)) ::
oL 13 12 ::
oD 14 (.len (.t 13)) ::
oD 15 (.bin .mul (cI 8) (.t 14)) ::
oM 5 15 ::
[])))
(.seq
(.seq
(.reg (oD 16 (.fieldAddr 0 (.t 1)) ::
oL 17 16 ::
oD 18 (.bin .eql (.t 17) (cI 32768)) ::
[]))
(.cond (.t 18)
(.seq
(.keep [1, 3]
(.reg (oD 19 (.fieldAddr 1 (.t 3)) ::
oL 20 19 ::
oM 5 20 ::
[])))
(.seq
(.seq
(.keep [1, 5]
(.reg (oD 21 (.fieldAddr 1 (.t 1)) ::
oL 22 21 ::
oD 23 (.fieldAddr 4 (.t 1)) ::
oL 24 23 ::
oD 25 (.call false (.f 278) [(.t 22), (.t 24)]) ::
oD 26 (.un .not (.t 25)) ::
[])))
(.cond (.t 26)
(.seq
(.keep []
(.reg (oD 2 (.mov (cI 1032)) ::
[])))
.ret)
.skip))
(.seq
(.keep [1, 5]
(.reg (oD 27 (.fieldAddr 2 (.t 1)) ::
oL 28 27 ::
oM 29 28 ::
oT 29 30 (.fieldAddr 1 (.t 1)) ::
oT 29 31 (.load none (.t 30)) ::
oT 29 32 (.fieldAddr 5 (.t 1)) ::
oT 29 33 (.load none (.t 32)) ::
oT 29 34 (.call false (.f 278) [(.t 31), (.t 33)]) ::
oT 29 35 (.un .not (.t 34)) ::
oD 36 (.pick (.t 29) (.t 35) cF) ::
[])))
(.cond (.t 36)
(.seq
(.keep []
(.reg (oD 2 (.mov (cI 1033)) ::
[])))
.ret)
.skip))))
.skip))
(.seq
(.seq
(.keep [1, 5]
(.reg (oD 37 (.fieldAddr 2 (.t 1)) ::
oL 38 37 ::
oM 39 38 ::
oT 39 40 (.fieldAddr 5 (.t 1)) ::
oT 39 41 (.load none (.t 40)) ::
oT 39 42 (.call false (.f 279) [(.t 41)]) ::
oT 39 43 (.mov (.t 42)) ::
oF 43 44 (.fieldAddr 5 (.t 1)) ::
oF 43 45 (.load none (.t 44)) ::
oF 43 46 (.mov (.t 5)) ::
oF 43 47 (.call false (.f 280) [(.t 45), (.t 46)]) ::
oT 39 48 (.pick (.t 43) cT (.t 47)) ::
oD 49 (.pick (.t 39) (.t 48) cF) ::
[])))
(.cond (.t 49)
(.seq
(.keep []
(.reg (oD 2 (.mov (cI 1033)) ::
[])))
.ret)
.skip))
(.seq
(.seq
(.keep [1]
(.reg (oD 50 (.fieldAddr 2 (.t 1)) ::
oL 51 50 ::
oM 52 51 ::
oT 52 53 (.fieldAddr 4 (.t 1)) ::
oT 52 54 (.load none (.t 53)) ::
oT 52 55 (.fieldAddr 5 (.t 1)) ::
oT 52 56 (.load none (.t 55)) ::
oT 52 57 (.call false (.f 281) [(.t 54), (.t 56)]) ::
oT 52 58 (.un .not (.t 57)) ::
oD 59 (.pick (.t 52) (.t 58) cF) ::
[])))
(.cond (.t 59)
(.seq
(.keep []
(.reg (oD 2 (.mov (cI 1030)) ::
[])))
.ret)
.skip))
(.seq
(.keep []
(.reg (oD 2 (.mov (cI 0)) ::
[])))
.ret)))))))
def rd_r08_Wrong : List RD := [.tmp 2 true none]
theorem ok_r08_Wrong : fnOk Tryz.prog Tryz.f251 ir_r08_Wrong rd_r08_Wrong = true := by kernel_rfl
def S_r08_Wrong : List AV → List Obj → Option (Prop × AV)
  | [.agg [.int .i64 c, .int .i64 f, .bool h, .int .u64 x, .imm (.int .u8) v, .imm (.int .u8) m]], [] => some (((h = true → c ≠ 32768 → v.length ≤ m.length) ∧ m.length ≤ 100000, .int .i64 (refW c f h v m)))
  | _, _ => none
theorem snd_r08_Wrong : SoundS Tryz.prog 251 (RoF S_r08_Wrong).sum := by
  refine ro_fn Tryz.func251 ok_r08_Wrong (env_cons (s := RoF S_r07_Of) snd_r07_Of (env_cons (s := RoF S_r07_Fits) snd_r07_Fits (env_cons (s := RoF S_r08_zeros) snd_r08_zeros (env_cons (s := RoF S_r08_ones) snd_r08_ones (env_cons (s := RoF S_r08_inside) snd_r08_inside (env_nil _)))))) fun args objs p v e => ?_
  unfold S_r08_Wrong at e
  split at e
  · rename_i c f h x v m
    cases e
    refine ⟨rfl, fun hw ho hp => ?_⟩
    change List Int at v
    change List Int at m
    have hfv := ref_fit (f := f) (v := v)
    have hfm := ref_fit (f := f) (v := m)
    cases h <;> by_cases hc : c = 32768
    all_goals repeat' (intro t ht; first | (cases t <;> first | (cases ht; done) | ((try simp only [bn_s] at ht); (try simp only [nd_s] at ht))) | (refine ht ?_ ?_ <;> clear ht) | (refine ht.1 ?_ ?_ <;> clear ht) | (refine ht ?_; clear ht))
    all_goals first
      | exact True.intro
      | contradiction
      | ((try simp only [nd_s, bn_s, mm_s] at *); omega)
      | (have h1 := hfm (by assumption); (try simp only [nd_s, bn_s, mm_s] at *); omega)
      | (have h1 := hfm (by assumption); have h2 := hfv (by assumption); (try simp only [nd_s, bn_s, mm_s] at *); omega)
      | (have h1 := hp.1 rfl (by assumption); exact h1)
      | (unfold refW; simp_all; done)
      | trace_state
  · cases e
def refR (c f : Int) (h : Bool) (x : Int) (v m : List Int) : Bool :=
  if (h = false ∧ 0 < m.length) ∨ (h = true ∧ ¬ (m.length : Int) = v.length) then false
  else if c = 32768 then fIs f && decide (x = 0) && (!h || maskR f) && decide (refW c f h v m = 0)
  else decide (c = 65535) && decide (0 ≤ f) && decide (f ≤ 127) && decide (x < 4294967296) && decide ((v.length : Int) ≤ 100) && decide (refW c f h v m = 0)
def ir_r08_Right : IR :=
(.seq
(.keep [0]
(.reg (oD 1 (.boxv (.t 0)) ::
oD 2 (.mov cF) ::
[])))
(.seq
(.seq
(.keep [1]
(.reg (oD 5 (.fieldAddr 2 (.t 1)) ::
oL 6 5 ::
oD 7 (.un .not (.t 6)) ::
oM 8 7 ::
oT 8 9 (.fieldAddr 5 (.t 1)) ::
oT 8 10 (.load none (.t 9)) ::
oT 8 11 (.len (.t 10)) ::
oT 8 12 (.bin .gtr (.t 11) (cI 0)) ::
oD 13 (.pick (.t 8) (.t 12) cF) ::
oM 14 13 ::
oF 14 15 (.fieldAddr 2 (.t 1)) ::
oF 14 16 (.load none (.t 15)) ::
oF 14 17 (.mov (.t 16)) ::
oT 17 18 (.fieldAddr 5 (.t 1)) ::
oT 17 19 (.load none (.t 18)) ::
oT 17 20 (.len (.t 19)) ::
oT 17 21 (.fieldAddr 4 (.t 1)) ::
oT 17 22 (.load none (.t 21)) ::
oT 17 23 (.len (.t 22)) ::
oT 17 24 (.bin .neq (.t 20) (.t 23)) ::
oF 14 25 (.pick (.t 17) (.t 24) cF) ::
oD 26 (.pick (.t 14) cT (.t 25)) ::
[])))
(.cond (.t 26)
(.seq
(.keep []
(.reg (oD 2 (.mov cF) ::
[])))
.ret)
.skip))
(.seq
(.seq
(.keep [1]
(.reg (oD 27 (.fieldAddr 0 (.t 1)) ::
oL 28 27 ::
oD 29 (.bin .eql (.t 28) (cI 32768)) ::
[])))
(.cond (.t 29)
(.seq
(.keep [1]
(.reg (oD 31 (.fieldAddr 1 (.t 1)) ::
oL 32 31 ::
oD 33 (.call false (.f 250) [(.t 32)]) ::
oM 30 33 ::
oD 34 (.extract (.t 30) 0) ::
oD 35 (.extract (.t 30) 1) ::
oD 3 (.box [.str [], .int .i64 0, .int .i64 0, .kb false, .int .i64 0, .imm (.int .u64) []]) ::
oN (.store 6 (.t 3) (.t 34)) ::
oM 4 35 ::
[])))
(.seq
(.keep [1, 3, 4]
(.reg (oM 36 4 ::
oM 37 36 ::
oT 37 38 (.fieldAddr 3 (.t 1)) ::
oT 37 39 (.load none (.t 38)) ::
oT 37 40 (.bin .eql (.t 39) (.c (.int .u64 0))) ::
oD 41 (.pick (.t 37) (.t 40) cF) ::
oM 42 41 ::
oT 42 43 (.fieldAddr 2 (.t 1)) ::
oT 42 44 (.load none (.t 43)) ::
oT 42 45 (.un .not (.t 44)) ::
oT 42 46 (.mov (.t 45)) ::
oF 46 47 (.fieldAddr 3 (.t 3)) ::
oF 46 48 (.load none (.t 47)) ::
oT 42 49 (.pick (.t 46) cT (.t 48)) ::
oD 50 (.pick (.t 42) (.t 49) cF) ::
oM 51 50 ::
oT 51 52 (.load (some 6) (.t 1)) ::
oT 51 53 (.call false (.f 251) [(.t 52)]) ::
oT 51 54 (.bin .eql (.t 53) (cI 0)) ::
oD 55 (.pick (.t 51) (.t 54) cF) ::
oM 2 55 ::
[])))
.ret))
.skip))
(.seq
(.keep [1]
(.reg (oD 56 (.fieldAddr 0 (.t 1)) ::
oL 57 56 ::
oD 58 (.bin .eql (.t 57) (cI 65535)) ::
oM 59 58 ::
oT 59 60 (.fieldAddr 1 (.t 1)) ::
oT 59 61 (.load none (.t 60)) ::
oT 59 62 (.bin .geq (.t 61) (cI 0)) ::
oD 63 (.pick (.t 59) (.t 62) cF) ::
oM 64 63 ::
oT 64 65 (.fieldAddr 1 (.t 1)) ::
oT 64 66 (.load none (.t 65)) ::
oT 64 67 (.bin .leq (.t 66) (cI 127)) ::
oD 68 (.pick (.t 64) (.t 67) cF) ::
oM 69 68 ::
oT 69 70 (.fieldAddr 3 (.t 1)) ::
oT 69 71 (.load none (.t 70)) ::
oT 69 72 (.bin .lss (.t 71) (.c (.int .u64 4294967296))) ::
oD 73 (.pick (.t 69) (.t 72) cF) ::
oM 74 73 ::
oT 74 75 (.fieldAddr 4 (.t 1)) ::
oT 74 76 (.load none (.t 75)) ::
oT 74 77 (.len (.t 76)) ::
oT 74 78 (.bin .leq (.t 77) (cI 100)) ::
oD 79 (.pick (.t 74) (.t 78) cF) ::
oM 80 79 ::
oT 80 81 (.load (some 6) (.t 1)) ::
oT 80 82 (.call false (.f 251) [(.t 81)]) ::
oT 80 83 (.bin .eql (.t 82) (cI 0)) ::
oD 84 (.pick (.t 80) (.t 83) cF) ::
oM 2 84 ::
[])))
.ret))))
def rd_r08_Right : List RD := [.tmp 2 true none]
theorem ok_r08_Right : fnOk Tryz.prog Tryz.f209 ir_r08_Right rd_r08_Right = true := by kernel_rfl
def S_r08_Right : List AV → List Obj → Option (Prop × AV)
  | [.agg [.int .i64 c, .int .i64 f, .bool h, .int .u64 x, .imm (.int .u8) v, .imm (.int .u8) m]], [] => some ((m.length ≤ 100000, .bool (refR c f h x v m)))
  | _, _ => none
theorem snd_r08_Right : SoundS Tryz.prog 209 (RoF S_r08_Right).sum := by
  refine ro_fn Tryz.func209 ok_r08_Right (env_cons (s := RoF S_r07_Of) snd_r07_Of (env_cons (s := RoF S_r08_Wrong) snd_r08_Wrong (env_nil _))) fun args objs p v e => ?_
  unfold S_r08_Right at e
  split at e
  · rename_i c f h x v m
    cases e
    refine ⟨rfl, fun hw ho hp => ?_⟩
    change List Int at v
    change List Int at m
    have hm : m.length ≤ maxLen := (hw _ (List.mem_cons_self ..) (.imm (.int .u8) m) (by simp)).2
    have hv : v.length ≤ maxLen := (hw _ (List.mem_cons_self ..) (.imm (.int .u8) v) (by simp)).2
    unfold maxLen at hm hv
    cases h <;> by_cases hc : c = 32768
    all_goals repeat' (intro t ht; first | (cases t <;> first | (cases ht; done) | ((try simp only [bn_s] at ht); (try simp only [nd_s] at ht))) | (refine ht ?_ ?_ <;> clear ht) | (refine ht.1 ?_ ?_ <;> clear ht) | (refine ht ?_; clear ht))
    all_goals first
      | exact True.intro
      | contradiction
      | (refine ⟨fun h1 h2 => ?_, ?_⟩ <;> first | omega | (cases h1; done))
      | ((try simp only [nd_s, bn_s, mm_s] at *); omega)
      | (unfold refR; simp_all; done)
      | (unfold refR; simp_all; omega)
      | trace_state
  · cases e
def bodyR (c x : Int) (v m : List Int) : List Int := (if c = 65535 then bytesN x 4 else []) ++ v ++ m
def refB (c f : Int) (h : Bool) (x : Int) (v m : List Int) : List Int := bytesN c 2 ++ [2 * f + if h = true then 1 else 0, ((bodyR c x v m).length : Int)] ++ bodyR c x v m
end Go.Eng
namespace Go.Eng
open Go.Proofs
set_option linter.unusedVariables false
set_option linter.unusedSimpArgs false
set_option maxRecDepth 100000
set_option maxHeartbeats 1000000
def sizeO (c f : Int) (h : Bool) (x : Int) (v m : List Int) : Int := if rightO c f h x v m = true then 4 + restO c v m else 0
def ir_oxm_Size : IR :=
(.seq
(.keep [0]
(.reg (oD 1 (.boxv (.t 0)) ::
oD 2 (.mov (cI 0)) ::
[])))
(.seq
(.seq
(.reg (oD 3 (.load (some 6) (.t 1)) ::
oD 4 (.call false (.f 246) [(.t 3)]) ::
oD 5 (.un .not (.t 4)) ::
[]))
(.cond (.t 5)
(.seq
(.reg (oD 2 (.mov (cI 0)) ::
[]))
.ret)
.skip))
(.seq
(.keep [1]
(.reg (oD 6 (.load (some 6) (.t 1)) ::
oD 7 (.call false (.f 248) [(.t 6)]) ::
oD 8 (.bin .add (cI 4) (.t 7)) ::
oM 2 8 ::
[])))
.ret)))
def rd_oxm_Size : List RD := [.tmp 2 true none]
theorem ok_oxm_Size : fnOk Tryz.prog Tryz.f240 ir_oxm_Size rd_oxm_Size = true := by kernel_rfl
def S_oxm_Size : List AV → List Obj → Option (Prop × AV)
  | [.agg [.int .i64 c, .int .i64 f, .bool h, .int .u64 x, .imm (.int .u8) v, .imm (.int .u8) m]], [] => some ((v.length ≤ 1000000 ∧ m.length ≤ 1000000, .int .i64 (sizeO c f h x v m)))
  | _, _ => none
theorem snd_oxm_Size : SoundS Tryz.prog 240 (RoF S_oxm_Size).sum := by
  refine ro_fn Tryz.func240 ok_oxm_Size (env_cons (s := RoF S_oxm_Right) snd_oxm_Right (env_cons (s := RoF S_oxm_rest) snd_oxm_rest (env_nil _))) fun args objs p v e => ?_
  unfold S_oxm_Size at e
  split at e
  · rename_i c f h x v m
    cases e
    refine ⟨rfl, fun hw ho hp => ?_⟩
    change List Int at v
    change List Int at m
    repeat' (intro t ht; first | (cases t <;> first | (cases ht; done) | ((try simp only [bn_s] at ht); (try simp only [nd_s] at ht))) | (refine ht ?_ ?_ <;> clear ht) | (refine ht.1 ?_ ?_ <;> clear ht) | (refine ht ?_; clear ht))
    all_goals first
      | exact hp
      | (have hr : rightO c f h x v m = true := by assumption
         have hl := right_len hr
         have hof := of_le c f
         have hm : (m.length : Int) ≤ 100 := by cases h; have := hl.2.2.1 rfl; omega; have := hl.2.1 rfl; omega
         have hrest : 0 ≤ restO c v m ∧ restO c v m ≤ 204 := by unfold restO; split <;> omega
         first
           | ((try simp only [nd_s, bn_s, mm_s] at *); omega)
           | (unfold sizeO; rw [if_pos hr]; exact ⟨rfl, rfl⟩))
      | (have hr : rightO c f h x v m = false := by assumption
         unfold sizeO; rw [hr]; exact ⟨rfl, rfl⟩)
      | trace_state
  · cases e
theorem room_id {n : Int} (h : 0 ≤ n) (h1 : n ≤ 1000000) : roomF n = n := by unfold roomF; rw [if_neg (by omega)]; split <;> omega
def headO (c f : Int) (h : Bool) (v m : List Int) : List Int := bytesN c 2 ++ bytesN (2 * f + if h = true then 1 else 0) 1 ++ bytesN (restO c v m) 1
def encO (c f : Int) (h : Bool) (x : Int) (v m : List Int) : List Int := headO c f h v m ++ (if c = 65535 then bytesN x 4 else []) ++ v ++ m
theorem put211 {a b c : Int} (ha : 0 ≤ a ∧ a ≤ 65535) (hb : 0 ≤ b ∧ b ≤ 255) (hc : 0 ≤ c ∧ c ≤ 255) : putB [2, 1, 1] [a, b, c] = bytesN a 2 ++ bytesN b 1 ++ bytesN c 1 ∧ putK [2, 1, 1] [a, b, c] = true := by
  have e1 : a.fdiv (2 ^ 16) = 0 := by rw [Int.fdiv_eq_ediv_of_nonneg _ (by decide)]; omega
  have e2 : b.fdiv (2 ^ 8) = 0 := by rw [Int.fdiv_eq_ediv_of_nonneg _ (by decide)]; omega
  have e3 : c.fdiv (2 ^ 8) = 0 := by rw [Int.fdiv_eq_ediv_of_nonneg _ (by decide)]; omega
  have h : putF [2, 1, 1] [a, b, c] = some (bytesN a 2 ++ bytesN b 1 ++ bytesN c 1) := by
    unfold putF
    rw [if_pos ⟨by decide, show countW [2, 1, 1] = 3 by decide⟩]
    show (if (2 : Int) < 8 ∧ a.fdiv (2 ^ 16) ≠ 0 then none else putA [1, 1] [b, c] ([] ++ bytesN a 2)) = _
    rw [if_neg (fun h => h.2 e1)]
    show (if (1 : Int) < 8 ∧ b.fdiv (2 ^ 8) ≠ 0 then none else putA [1] [c] ([] ++ bytesN a 2 ++ bytesN b 1)) = _
    rw [if_neg (fun h => h.2 e2)]
    show (if (1 : Int) < 8 ∧ c.fdiv (2 ^ 8) ≠ 0 then none else putA [] [] ([] ++ bytesN a 2 ++ bytesN b 1 ++ bytesN c 1)) = _
    rw [if_neg (fun h => h.2 e3)]
    simp [putA]
  unfold putB putK; rw [h]; exact ⟨rfl, rfl⟩
theorem put4 {a : Int} (ha : 0 ≤ a ∧ a ≤ 4294967295) : putB [4] [a] = bytesN a 4 ∧ putK [4] [a] = true := by
  have e1 : a.fdiv (2 ^ 32) = 0 := by rw [Int.fdiv_eq_ediv_of_nonneg _ (by decide)]; omega
  have h : putF [4] [a] = some (bytesN a 4) := by
    unfold putF
    rw [if_pos ⟨by decide, show countW [4] = 1 by decide⟩]
    show (if (4 : Int) < 8 ∧ a.fdiv (2 ^ 32) ≠ 0 then none else putA [] [] ([] ++ bytesN a 4)) = _
    rw [if_neg (fun h => h.2 e1)]
    simp [putA]
  unfold putB putK; rw [h]; exact ⟨rfl, rfl⟩
theorem bufB_ok {x l : List Int} {room : Int} (h : (x.length : Int) ≤ room - l.length) : bufB x l room 0 = l ++ x ∧ bufE x l room 0 = 0 := by
  unfold bufB bufE bufOk; rw [decide_eq_true h]; simp; omega
theorem rows211 {a b c room : Int} (ha : 0 ≤ a ∧ a ≤ 65535) (hb : 0 ≤ b ∧ b ≤ 255) (hc : 0 ≤ c ∧ c ≤ 255) (hr : 4 ≤ room) : rowB [2, 1, 1] [a, b, c] [] room 0 = bytesN a 2 ++ bytesN b 1 ++ bytesN c 1 ∧ rowE [2, 1, 1] [a, b, c] [] room 0 = 0 := by
  obtain ⟨h1, h2⟩ := put211 ha hb hc
  have l1 := bytesN_len (n := a) (w := 2) (by decide)
  have l2 := bytesN_len (n := b) (w := 1) (by decide)
  have l3 := bytesN_len (n := c) (w := 1) (by decide)
  have := bufB_ok (x := bytesN a 2 ++ bytesN b 1 ++ bytesN c 1) (l := []) (room := room) (by simp only [List.length_append, List.length_nil]; omega)
  unfold rowB rowE; rw [h1, h2]; exact this
theorem nm4 {x room : Int} {l : List Int} (hx : 0 ≤ x ∧ x ≤ 4294967295) (hr : 4 ≤ room - l.length) : nmB 4 x l room 0 = l ++ bytesN x 4 ∧ nmE 4 x l room 0 = 0 := by
  obtain ⟨h1, h2⟩ := put4 hx
  have l1 := bytesN_len (n := x) (w := 4) (by decide)
  have := bufB_ok (x := bytesN x 4) (l := l) (room := room) (by omega)
  have hw : wideB 4 = true := by decide
  unfold nmB nmE rowB rowE; rw [hw, h1, h2]; exact this
def ir_oxm_Encode : IR :=
(.seq
(.keep [0]
(.reg (oD 1 (.boxv (.t 0)) ::
oD 2 (.mov (.c (.imm (.int .u8) []))) ::
oD 3 (.mov (cI 0)) ::
[])))
(.seq
(.seq
(.reg (oD 6 (.load (some 6) (.t 1)) ::
oD 7 (.call false (.f 246) [(.t 6)]) ::
oD 8 (.un .not (.t 7)) ::
[]))
(.cond (.t 8)
(.seq
(.keep []
(.reg (oD 2 (.mov (.c (.imm (.int .u8) []))) ::
oD 3 (.mov (cI 10001)) ::
[])))
.ret)
.skip))
(.seq
(.keep [1]
(.reg (oD 9 (.load (some 6) (.t 1)) ::
oD 10 (.call false (.f 240) [(.t 9)]) ::
oD 11 (.call false (.f 38) [(.t 10)]) ::
oM 4 11 ::
[])))
(.seq
(.keep [1, 4]
(.reg (oD 12 (.fieldAddr 1 (.t 1)) ::
oL 13 12 ::
oD 14 (.bin .mul (cI 2) (.t 13)) ::
oD 15 (.conv .u64 (.t 14)) ::
oM 5 15 ::
[])))
(.seq
(.seq
(.reg (oD 16 (.fieldAddr 2 (.t 1)) ::
oL 17 16 ::
[]))
(.cond (.t 17)
(.keep [1, 4, 5]
(.reg (oM 18 5 ::
oD 19 (.bin .add (.t 18) (.c (.int .u64 1))) ::
oM 5 19 ::
[])))
.skip))
(.seq
(.keep [1, 4, 5]
(.regD ((oM 20 4, []) ::
(oD 21 (.sliceAll (.int .i64) 3 [(0, 1, (cI 2)), (1, 1, (cI 1)), (2, 1, (cI 1))]), [0]) ::
(oD 22 (.fieldAddr 0 (.t 1)), [0, 0]) ::
(oL 23 22, [1, 0]) ::
(oD 24 (.conv .u64 (.t 23)), [2, 0]) ::
(oM 25 5, [0, 0, 0, 0, 0]) ::
(oD 26 (.load (some 6) (.t 1)), [0, 0, 0, 0, 0, 0]) ::
(oD 27 (.call false (.f 248) [(.t 26)]), [1, 0, 0, 0, 0, 0]) ::
(oD 28 (.conv .u64 (.t 27)), [2, 0, 0, 0, 0, 0]) ::
(oD 29 (.sliceAll (.int .u64) 3 [(0, 1, (.t 24)), (1, 1, (.t 25)), (2, 1, (.t 28))]), [7, 0]) ::
(oD 30 (.call false (.f 112) [(.t 20), (.t 21), (.t 29)]), []) ::
[])))
(.seq
(.seq
(.keep [1, 4]
(.reg (oD 31 (.fieldAddr 0 (.t 1)) ::
oL 32 31 ::
oD 33 (.bin .eql (.t 32) (cI 65535)) ::
[])))
(.cond (.t 33)
(.reg (oM 34 4 ::
oD 35 (.fieldAddr 3 (.t 1)) ::
oL 36 35 ::
oD 37 (.call false (.f 249) [(.t 34), (cI 4), (.t 36)]) ::
[]))
.skip))
(.seq
(.keep [1, 4]
(.reg (oM 38 4 ::
oD 39 (.fieldAddr 4 (.t 1)) ::
oL 40 39 ::
oD 41 (.call false (.f 39) [(.t 38), (.t 40)]) ::
[])))
(.seq
(.reg (oM 42 4 ::
oD 43 (.fieldAddr 5 (.t 1)) ::
oL 44 43 ::
oD 45 (.call false (.f 39) [(.t 42), (.t 44)]) ::
[]))
(.seq
(.keep [4]
(.reg (oM 46 4 ::
oD 47 (.call false (.f 41) [(.t 46)]) ::
oD 48 (.extract (.t 47) 0) ::
oD 49 (.extract (.t 47) 1) ::
oM 2 48 ::
oM 3 49 ::
[])))
.ret))))))))))
def rd_oxm_Encode : List RD := [.tmp 2 true (some (.int .u8)), .tmp 3 true none]
theorem ok_oxm_Encode : fnOk Tryz.prog Tryz.f207 ir_oxm_Encode rd_oxm_Encode = true := by kernel_rfl
def S_oxm_Encode : List AV → List Obj → Option (Prop × AV)
  | [.agg [.int .i64 c, .int .i64 f, .bool h, .int .u64 x, .imm (.int .u8) v, .imm (.int .u8) m]], [] => some ((v.length ≤ 1000000 ∧ m.length ≤ 1000000, .tup [.imm (.int .u8) (if rightO c f h x v m = true then encO c f h x v m else []), .int .i64 (if rightO c f h x v m = true then 0 else 10001)]))
  | _, _ => none
theorem snd_oxm_Encode : SoundS Tryz.prog 207 (RoF S_oxm_Encode).sum := by
  refine ro_fn Tryz.func207 ok_oxm_Encode (env_cons (s := RoF S_oxm_Right) snd_oxm_Right (env_cons (s := RoF S_oxm_Size) snd_oxm_Size (env_cons (s := RwF S_buffer_New) snd_buffer_New (env_cons (s := RoF S_oxm_rest) snd_oxm_rest (env_cons (s := RwF S_buffer_Buffer_Row) snd_buffer_Buffer_Row (env_cons (s := RwF S_buffer_Buffer_Num) snd_buffer_Buffer_Num (env_cons (s := RwF S_buffer_Buffer_Bytes) snd_buffer_Buffer_Bytes (env_cons (s := RwF S_buffer_Buffer_Done) snd_buffer_Buffer_Done (env_nil _))))))))) fun args objs p v e => ?_
  unfold S_oxm_Encode at e
  split at e
  · rename_i c f h x v m
    cases e
    refine ⟨rfl, fun hw ho hp => ?_⟩
    change List Int at v
    change List Int at m
    cases hr : rightO c f h x v m with
    | false =>
      repeat' (intro t ht; first | (cases t <;> first | (cases ht; done) | ((try simp only [bn_s] at ht); (try simp only [nd_s] at ht))) | (refine ht ?_ ?_ <;> clear ht) | (refine ht.1 ?_ ?_ <;> clear ht) | (refine ht ?_; clear ht))
      all_goals first
        | exact hp
        | (exfalso; simp_all; done)
        | exact ⟨rfl, rfl⟩
        | trace_state
    | true =>
      have hl := right_len hr
      have hof := of_le c f
      have hm : (m.length : Int) ≤ 100 := by cases h; have := hl.2.2.1 rfl; omega; have := hl.2.1 rfl; omega
      have hrest : 0 ≤ restO c v m ∧ restO c v m ≤ 204 := by unfold restO; split <;> omega
      have hcf : 0 ≤ f ∧ f ≤ 127 ∧ (c = 65535 ∨ c = 32768) := by
        have h4 := hl.2.2.2.1
        unfold ofOk at h4
        split at h4
        · simp at h4; omega
        · simp at h4; have := fIs_t.1 h4.1; omega
      have hs : sizeO c f h x v m = 4 + restO c v m := by unfold sizeO; rw [if_pos hr]
      have hroom : roomF (sizeO c f h x v m) = 4 + restO c v m := by rw [hs]; exact room_id (by omega) (by omega)
      have hx0 : 0 ≤ x := ((hw _ (List.mem_cons_self ..)) (.int .u64 x) (by simp)).1
      have hx1 : x ≤ 4294967295 := by
        have h7 : x.fdiv (2 ^ 32) = 0 := hl.2.2.2.2.2.2.1
        rw [Int.fdiv_eq_ediv_of_nonneg _ (by decide)] at h7; omega
      obtain ⟨N, hN⟩ : ∃ N, N = 2 * f + if h = true then 1 else 0 := ⟨_, rfl⟩
      have hN1 : 0 ≤ N ∧ N ≤ 255 := by rw [hN]; split <;> omega
      obtain ⟨R, hR⟩ : ∃ R, R = restO c v m := ⟨_, rfl⟩
      have hR1 : 0 ≤ R ∧ R ≤ 204 := by omega
      obtain ⟨H1, H2⟩ := rows211 (a := c) (b := N) (c := R) (room := 4 + R) (by omega) (by omega) (by omega) (by omega)
      have l0 : ((bytesN c 2 ++ bytesN N 1 ++ bytesN R 1).length : Int) = 4 := by
        have l1 := bytesN_len (n := c) (w := 2) (by decide)
        have l2 := bytesN_len (n := N) (w := 1) (by decide)
        have l3 := bytesN_len (n := R) (w := 1) (by decide)
        simp only [List.length_append]; omega
      have l4 := bytesN_len (n := x) (w := 4) (by decide)
      have hd0 : doneL = doneL := rfl
      have e0 : ∀ l, doneL l [] 0 = l := fun l => rfl
      have e1 : doneE [] 0 = 0 := rfl
      rw [← hR] at hroom
      by_cases hc : c = 65535
      · have hRe : R = (v.length : Int) + m.length + 4 := by rw [hR]; unfold restO; rw [if_pos hc]
        obtain ⟨H3, H4⟩ := nm4 (x := x) (room := 4 + R) (l := bytesN c 2 ++ bytesN N 1 ++ bytesN R 1) ⟨hx0, hx1⟩ (by omega)
        obtain ⟨H5, H6⟩ := bufB_ok (x := v) (room := 4 + R) (l := bytesN c 2 ++ bytesN N 1 ++ bytesN R 1 ++ bytesN x 4) (by rw [List.length_append]; omega)
        obtain ⟨H7, H8⟩ := bufB_ok (x := m) (room := 4 + R) (l := bytesN c 2 ++ bytesN N 1 ++ bytesN R 1 ++ bytesN x 4 ++ v) (by rw [List.length_append, List.length_append]; omega)
        have hfin : encO c f h x v m = bytesN c 2 ++ bytesN N 1 ++ bytesN R 1 ++ bytesN x 4 ++ v ++ m := by unfold encO headO; rw [← hN, ← hR, if_pos hc]
        rw [hfin]
        cases h
        all_goals (simp only [if_true, if_false, Bool.false_eq_true, Int.add_zero] at hN)
        all_goals repeat' (intro t ht; first | (cases t <;> first | (cases ht; done) | ((try simp only [bn_s] at ht); (try simp only [nd_s] at ht))) | (refine ht ?_ ?_ <;> clear ht) | (refine ht.1 ?_ ?_ <;> clear ht) | (refine ht ?_; clear ht))
        all_goals (try simp only [← hN, ← hR])
        all_goals first
          | exact True.intro
          | exact hp
          | (exfalso; simp_all; done)
          | ((try simp only [nd_s, bn_s, mm_s] at *); omega)
          | (simp only [hroom, H1, H2, H3, H4, H5, H6, H7, H8]; simp only [List.length_append, List.length_nil] at l0 ⊢; omega)
          | (refine ⟨?_, ?_⟩ <;> first | rfl | (simp only [hroom, H1, H2, H3, H4, H5, H6, H7, H8, e0, e1]; done) | (simp only [hroom, H1, H2, H3, H4, H5, H6, H7, H8, e0, e1]; rfl))
          | trace_state
      · have hRe : R = (v.length : Int) + m.length := by rw [hR]; unfold restO; rw [if_neg hc]
        obtain ⟨H5, H6⟩ := bufB_ok (x := v) (room := 4 + R) (l := bytesN c 2 ++ bytesN N 1 ++ bytesN R 1) (by omega)
        obtain ⟨H7, H8⟩ := bufB_ok (x := m) (room := 4 + R) (l := bytesN c 2 ++ bytesN N 1 ++ bytesN R 1 ++ v) (by rw [List.length_append]; omega)
        have hfin : encO c f h x v m = bytesN c 2 ++ bytesN N 1 ++ bytesN R 1 ++ v ++ m := by unfold encO headO; rw [← hN, ← hR, if_neg hc, List.append_nil]
        rw [hfin]
        cases h
        all_goals (simp only [if_true, if_false, Bool.false_eq_true, Int.add_zero] at hN)
        all_goals repeat' (intro t ht; first | (cases t <;> first | (cases ht; done) | ((try simp only [bn_s] at ht); (try simp only [nd_s] at ht))) | (refine ht ?_ ?_ <;> clear ht) | (refine ht.1 ?_ ?_ <;> clear ht) | (refine ht ?_; clear ht))
        all_goals (try simp only [← hN, ← hR])
        all_goals first
          | exact True.intro
          | exact hp
          | (exfalso; simp_all; done)
          | ((try simp only [nd_s, bn_s, mm_s] at *); omega)
          | (simp only [hroom, H1, H2, H5, H6, H7, H8]; simp only [List.length_append, List.length_nil] at l0 ⊢; omega)
          | (refine ⟨?_, ?_⟩ <;> first | rfl | (simp only [hroom, H1, H2, H5, H6, H7, H8, e0, e1]; done) | (simp only [hroom, H1, H2, H5, H6, H7, H8, e0, e1]; rfl))
          | trace_state
  · cases e
def longS (h ex : Bool) (sz n : Int) : Int := if ex = true then (n - 4).tdiv (if h = true then 2 else 1) else sz
def longK (h ex : Bool) (sz n : Int) : Bool := if ex = true then decide (0 ≤ n - 4) && decide ((n - 4).tmod (if h = true then 2 else 1) = 0) && decide ((n - 4).tdiv (if h = true then 2 else 1) ≤ sz) else decide (n = (if h = true then 2 else 1) * sz)
def ir_oxm_long : IR :=
(.seq
(.keep [0, 1, 2]
(.reg (oD 3 (.boxv (.t 0)) ::
oD 4 (.boxv (.t 1)) ::
oD 6 (.mov (cI 0)) ::
oD 7 (.mov cF) ::
[])))
(.seq
(.reg (oD 8 (.mov (cI 1)) ::
[]))
(.seq
(.seq
(.reg (oD 9 (.fieldAddr 2 (.t 3)) ::
oL 10 9 ::
[]))
(.cond (.t 10)
(.keep [2, 4, 8]
(.reg (oM 11 8 ::
oD 12 (.bin .add (.t 11) (cI 1)) ::
oM 8 12 ::
[])))
.skip))
(.seq
(.seq
(.keep [2, 4, 8]
(.reg (oD 13 (.fieldAddr 3 (.t 4)) ::
oL 14 13 ::
oD 15 (.un .not (.t 14)) ::
[])))
(.cond (.t 15)
(.seq
(.keep [2, 4, 8]
(.regD ((oD 16 (.fieldAddr 0 (.t 4)), []) ::
(oL 17 16, []) ::
(oM 18 2, [0, 0]) ::
(oM 19 8, [0, 0, 0]) ::
(oD 20 (.fieldAddr 0 (.t 4)), [0, 0, 0, 0]) ::
(oL 21 20, [1, 0, 0, 0]) ::
(oD 22 (.bin .mul (.t 19) (.t 21)), [3, 0, 0]) ::
(oD 23 (.bin .eql (.t 18) (.t 22)), [5, 0]) ::
(oM 6 17, [0, 0, 0, 0, 0, 0]) ::
(oM 7 23, []) ::
[])))
.ret)
.skip))
(.seq
(.keep [2, 4, 8]
(.reg (oM 24 2 ::
oD 25 (.bin .sub (.t 24) (cI 4)) ::
oM 2 25 ::
[])))
(.seq
(.keep [2, 4, 8]
(.regD ((oM 26 2, []) ::
(oM 27 8, [0]) ::
(oD 28 (.bin .quo (.t 26) (.t 27)), []) ::
(oM 29 2, [0, 0, 0]) ::
(oD 30 (.bin .geq (.t 29) (cI 0)), [1, 0, 0]) ::
(oM 31 30, [2, 0, 0]) ::
(oT 31 32 (.mov (.t 2)), [3, 0, 0]) ::
(oT 31 33 (.mov (.t 8)), [0, 3, 0, 0]) ::
(oT 31 34 (.bin .rem (.t 32) (.t 33)), [5, 0, 0]) ::
(oT 31 35 (.bin .eql (.t 34) (cI 0)), [6, 0, 0]) ::
(oD 36 (.pick (.t 31) (.t 35) cF), [7, 0, 0]) ::
(oM 37 36, [8, 0, 0]) ::
(oT 37 38 (.mov (.t 2)), [9, 0, 0]) ::
(oT 37 39 (.mov (.t 8)), [0, 9, 0, 0]) ::
(oT 37 40 (.bin .quo (.t 38) (.t 39)), [11, 0, 0]) ::
(oT 37 41 (.fieldAddr 0 (.t 4)), [0, 0, 0, 9, 0, 0]) ::
(oT 37 42 (.load none (.t 41)), [1, 0, 0, 9, 0, 0]) ::
(oT 37 43 (.bin .leq (.t 40) (.t 42)), [14, 0, 0]) ::
(oD 44 (.pick (.t 37) (.t 43) cF), [15, 0, 0]) ::
(oM 6 28, [0, 0, 0, 0, 0, 0, 0]) ::
(oM 7 44, []) ::
[])))
.ret))))))
def rd_oxm_long : List RD := [.tmp 6 true none, .tmp 7 true none]
theorem ok_oxm_long : fnOk Tryz.prog Tryz.f308 ir_oxm_long rd_oxm_long = true := by kernel_rfl
def S_oxm_long : List AV → List Obj → Option (Prop × AV)
  | [.agg [.int .i64 c, .int .i64 f, .bool h, .int .u64 x, .imm (.int .u8) v, .imm (.int .u8) m], .agg [.int .i64 sz, .int .i64 bits, .bool mk, .bool ex], .int .i64 n], [] => some ((0 ≤ n ∧ n ≤ 255 ∧ 0 ≤ sz ∧ sz ≤ 100, .tup [.int .i64 (longS h ex sz n), .bool (longK h ex sz n)]))
  | _, _ => none
theorem snd_oxm_long : SoundS Tryz.prog 308 (RoF S_oxm_long).sum := by
  refine ro_fn Tryz.func308 ok_oxm_long (env_nil _) fun args objs p v e => ?_
  unfold S_oxm_long at e
  split at e
  · rename_i c f h x v m sz bits mk ex n
    cases e
    refine ⟨rfl, fun hw ho hp => ?_⟩
    change List Int at v
    change List Int at m
    have t1 : (n - 4).tdiv 1 = n - 4 := Int.tdiv_one _
    have t2 : -4 ≤ (n - 4).tdiv 2 ∧ (n - 4).tdiv 2 ≤ 255 := by
      by_cases h : 0 ≤ n - 4
      · rw [tdiv_nn h]; omega
      · have : n = 0 ∨ n = 1 ∨ n = 2 ∨ n = 3 := by omega
        rcases this with h | h | h | h <;> subst h <;> decide
    have e2 : (1 + 1 : Int) = 2 := rfl
    cases h <;> cases ex
    all_goals repeat' (intro t ht; first | (cases t <;> first | (cases ht; done) | ((try simp only [bn_s] at ht); (try simp only [nd_s] at ht))) | (refine ht ?_ ?_ <;> clear ht) | (refine ht.1 ?_ ?_ <;> clear ht) | (refine ht ?_; clear ht))
    all_goals (try simp only [e2] at *)
    all_goals first
      | exact True.intro
      | exact (by decide)
      | ((try simp only [nd_s, bn_s, mm_s] at *); simp only [t1]; omega)
      | ((try simp only [nd_s, bn_s, mm_s] at *); omega)
      | (have hn : ¬ 0 ≤ n - 4 := by assumption
         refine ⟨?_, by first | rfl | exact True.intro⟩; unfold longK; rw [decide_eq_false hn]; rfl)
      | (unfold longS longK; simp_all; done)
      | trace_state
  · cases e
end Go.Eng
