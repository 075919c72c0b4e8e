/- Contracts of functions of the given program, told by plain Lean functions. No condition. -/
import Derived.Test.YtoejpijobbcooaaGreatDoorProg
import Derived.Test.YtoejpijobbcooaaGreatDoorEArg
import Derived.KernelRfl
import Derived.Test.YtoejpijobbcooaaGreatDoorT1
import Derived.Test.YtoejpijobbcooaaGreatDoorC1
import Derived.Test.YtoejpijobbcooaaGreatDoorB1
import Derived.Test.YtoejpijobbcooaaGreatDoorF4
namespace Go.Eng
open Go.Proofs
set_option linter.unusedVariables false
set_option linter.unusedSimpArgs false
set_option maxRecDepth 100000
set_option maxHeartbeats 1000000
structure Ox where
  c : Int
  f : Int
  has : Bool
  x : Int
  v : List Int
  m : List Int
def ir_oxm_blank : IR :=
(.seq
(.keep [0]
(.reg (⟨some 2, .mov (.c (.kb false)), none⟩ ::
[])))
(.seq
(.keep [0]
(.reg (⟨some 3, .mov (.t 0), none⟩ ::
⟨some 4, .call false (.f 102) [(.t 3), (.c (.str [0]))], none⟩ ::
⟨some 5, .len (.t 4), none⟩ ::
⟨some 6, .bin .eql (.t 5) (.c (.int .i64 0)), none⟩ ::
⟨some 2, .mov (.t 6), none⟩ ::
[])))
.ret))
def rd_oxm_blank : List RD := [.tmp 2 true none]
theorem ok_oxm_blank : fnOk Tryz.prog Tryz.f135 ir_oxm_blank rd_oxm_blank = true := by kernel_rfl
def S_oxm_blank : List AV → List Obj → Option (Prop × AV)
  | [.imm (.int .u8) b], [] => some ((b.length ≤ 140737488355328, .bool (zeroL b)))
  | _, _ => none
theorem snd_oxm_blank : SoundS Tryz.prog 135 (RoF S_oxm_blank).sum := by
  refine ro_fn Tryz.func135 ok_oxm_blank (env_cons (s := RoF S_bytes_Trim) snd_bytes_Trim (env_nil _)) fun args objs p v e => ?_
  unfold S_oxm_blank at e
  split at e
  · rename_i b
    cases e
    refine ⟨rfl, fun hw ho hp => ?_⟩
    change List Int at b
    have h := trim_zero b
    repeat' (intro t ht; first | (cases t <;> first | (cases ht; done) | ((try simp only [Bool.not_eq_eq_eq_not, Bool.not_true, Bool.not_false, Bool.and_eq_true, Bool.and_eq_false_iff, decide_eq_true_eq, decide_eq_false_iff_not] at ht); (try simp only [Int.toNat_natCast, dflt_int] at ht))) | (refine ht ?_ ?_ <;> clear ht) | (refine ht.1 ?_ ?_ <;> clear ht) | (refine ht ?_; clear ht))
    all_goals first
      | exact hp
      | (refine ⟨?_, rfl⟩; rw [← h]; congr 1; rw [Bool.eq_iff_iff]; simp only [decide_eq_true_eq]; omega)
      | trace_state
  · cases e
def ownA (s : Int) : Int := if 0 < s then (255 : Int).fdiv (2 ^ (min (if 8 < s then 8 else s).toNat 8)) else 255
def onesA : List Int → Int → Bool
  | [], _ => true
  | x :: r, s => if x = ownA s then onesA r (s - 8) else false
def onesF (b : List Int) (bits : Int) : Bool := onesA b (b.length * 8 - bits)
def ir_oxm_ones : IR :=
(.seq
(.keep [0, 1]
(.reg (⟨some 4, .mov (.c (.kb false)), none⟩ ::
[])))
(.seq
(.reg (⟨some 10, .mov (.t 0), none⟩ ::
⟨some 11, .len (.t 10), none⟩ ::
⟨some 12, .bin .mul (.t 11) (.c (.int .i64 8)), none⟩ ::
⟨some 5, .mov (.t 12), none⟩ ::
[]))
(.seq
(.seq
(.reg (⟨some 13, .mov (.t 0), none⟩ ::
⟨some 14, .len (.t 13), none⟩ ::
⟨some 15, .mov (.c (.int .i64 0)), none⟩ ::
[]))
(.block 0
(.loop
(.seq
(.keep [1, 5, 13, 14, 15]
(.reg (⟨some 16, .bin .lss (.t 15) (.t 14), none⟩ ::
[])))
(.seq
(.cond (.t 16)
.skip
(.exit 0))
(.seq
(.block 1
(.seq
(.keep [1, 5, 13, 14, 15]
(.reg (⟨some 17, .mov (.t 15), none⟩ ::
⟨some 18, .indexSl 1 (.t 13) (.t 15), none⟩ ::
⟨some 19, .load none (.t 18), none⟩ ::
⟨some 6, .mov (.t 17), none⟩ ::
⟨some 7, .mov (.t 19), none⟩ ::
[])))
(.seq
(.reg (⟨some 8, .mov (.c (.int .u8 255)), none⟩ ::
[]))
(.seq
(.seq
(.keep [1, 5, 6, 7, 8, 13, 14, 15]
(.reg (⟨some 20, .mov (.t 5), none⟩ ::
⟨some 21, .mov (.t 6), none⟩ ::
⟨some 22, .bin .mul (.t 21) (.c (.int .i64 8)), none⟩ ::
⟨some 23, .bin .sub (.t 20) (.t 22), none⟩ ::
⟨some 24, .mov (.t 1), none⟩ ::
⟨some 25, .bin .sub (.t 23) (.t 24), none⟩ ::
⟨some 9, .mov (.t 25), none⟩ ::
[])))
(.seq
(.keep [1, 5, 7, 8, 9, 13, 14, 15]
(.reg (⟨some 26, .mov (.t 9), none⟩ ::
⟨some 27, .bin .gtr (.t 26) (.c (.int .i64 0)), none⟩ ::
[])))
(.cond (.t 27)
(.keep [1, 5, 7, 8, 9, 13, 14, 15]
(.reg (⟨some 28, .mov (.t 8), none⟩ ::
⟨some 29, .mov (.t 9), none⟩ ::
⟨some 30, .minmax false (.t 29) (.c (.int .i64 8)), none⟩ ::
⟨some 31, .bin .shr (.t 28) (.t 30), none⟩ ::
⟨some 8, .mov (.t 31), none⟩ ::
[])))
.skip)))
(.seq
(.reg (⟨some 32, .mov (.t 7), none⟩ ::
⟨some 33, .mov (.t 8), none⟩ ::
⟨some 34, .bin .neq (.t 32) (.t 33), none⟩ ::
[]))
(.cond (.t 34)
(.seq
(.keep []
(.reg (⟨some 4, .mov (.c (.kb false)), none⟩ ::
[])))
.ret)
.skip))))))
(.keep [1, 5, 13, 14, 15]
(.reg (⟨some 35, .bin .add (.t 15) (.c (.int .i64 1)), none⟩ ::
⟨some 15, .mov (.t 35), none⟩ ::
[])))))))))
(.seq
(.keep []
(.reg (⟨some 4, .mov (.c (.kb true)), none⟩ ::
[])))
.ret))))
def rd_oxm_ones : List RD := [.tmp 4 true none]
theorem ok_oxm_ones : fnOk Tryz.prog Tryz.f136 ir_oxm_ones rd_oxm_ones = true := by kernel_rfl
def S_oxm_ones : List AV → List Obj → Option (Prop × AV)
  | [.imm (.int .u8) b, .int .i64 n], [] => some ((0 ≤ n ∧ n ≤ 1000000 ∧ b.length ≤ 1000000, .bool (onesF b n)))
  | _, _ => none
theorem snd_oxm_ones : SoundS Tryz.prog 136 (RoF S_oxm_ones).sum := by
  refine ro_fn Tryz.func136 ok_oxm_ones (env_nil _) fun args objs p v e => ?_
  unfold S_oxm_ones at e
  split at e
  · rename_i b n
    cases e
    refine ⟨rfl, fun hw ho hp => ?_⟩
    change List Int at b
    repeat' (intro t ht; first | (cases t <;> first | (cases ht; done) | ((try simp only [Bool.not_eq_eq_eq_not, Bool.not_true, Bool.not_false, Bool.and_eq_true, Bool.and_eq_false_iff, decide_eq_true_eq, decide_eq_false_iff_not] at ht); (try simp only [Int.toNat_natCast, dflt_int] at ht))) | (refine ht ?_ ?_ <;> clear ht) | (refine ht.1 ?_ ?_ <;> clear ht) | (refine ht ?_; clear ht))
    all_goals first
      | ((try simp only [Int.toNat_natCast, dflt_int, decide_eq_true_eq, decide_eq_false_iff_not, Bool.not_eq_eq_eq_not, Bool.not_true, Bool.not_false, Bool.and_eq_true, Bool.and_eq_false_iff, min_i64, max_i64, min_u64, max_u64, min_u32, max_u32, min_u16, max_u16, min_u8, max_u8] at *); omega)
      | (intro r h1 h2; clear h1; refine h2 ⟨[1, 5, 13, 14, 15], Nat, (fun i => i ≤ b.length ∧ onesF b n = onesA (b.drop i) (b.length * 8 - i * 8 - n)), fun i => [.int .i64 n, .int .i64 (b.length * 8), .imm (.int .u8) b, .int .i64 b.length, .int .i64 i], fun _ => [], fun i => b.length - i, ⟨0, ⟨Nat.zero_le _, by unfold onesF; simp⟩, rfl, rfl⟩, ?_⟩; clear h2)
    rintro i ⟨hi, he⟩
    repeat' (intro t ht; first | (cases t <;> first | (cases ht; done) | ((try simp only [Bool.not_eq_eq_eq_not, Bool.not_true, Bool.not_false, Bool.and_eq_true, Bool.and_eq_false_iff, decide_eq_true_eq, decide_eq_false_iff_not] at ht); (try simp only [Int.toNat_natCast, dflt_int] at ht))) | (refine ht ?_ ?_ <;> clear ht) | (refine ht.1 ?_ ?_ <;> clear ht) | (refine ht ?_; clear ht))
    all_goals first
      | ((try simp only [Int.toNat_natCast, dflt_int, decide_eq_true_eq, decide_eq_false_iff_not, Bool.not_eq_eq_eq_not, Bool.not_true, Bool.not_false, Bool.and_eq_true, Bool.and_eq_false_iff, min_i64, max_i64, min_u64, max_u64, min_u32, max_u32, min_u16, max_u16, min_u8, max_u8] at *); omega)
      | (have h0 : b.drop i = [] := List.drop_of_length_le (by omega)
         refine ⟨?_, rfl⟩; rw [he, h0]; rfl)
      | ((try simp only [Int.toNat_natCast, dflt_int, decide_eq_true_eq, decide_eq_false_iff_not, Bool.not_eq_eq_eq_not, Bool.not_true, Bool.not_false, Bool.and_eq_true, Bool.and_eq_false_iff, min_i64, max_i64, min_u64, max_u64, min_u32, max_u32, min_u16, max_u16, min_u8, max_u8] at *); split <;> omega)
      | (have hlt : i < b.length := by omega
         rw [drop_step hlt 0] at he
         first
           | (have hn : ¬ 0 < (b.length : Int) * 8 - i * 8 - n := by assumption
              have ho : ownA ((b.length : Int) * 8 - i * 8 - n) = 255 := if_neg hn
              first
                | (have hx : b.getD i 0 = 255 := by assumption
                   have h1 : onesA (b.getD i 0 :: b.drop (i + 1)) ((b.length : Int) * 8 - i * 8 - n) = onesA (b.drop (i + 1)) ((b.length : Int) * 8 - i * 8 - n - 8) := if_pos (hx.trans ho.symm)
                   refine ⟨i + 1, ⟨hlt, ?_⟩, by dsimp only; omega, rfl, rfl⟩
                   rw [he, h1]; congr 1; omega)
                | (have hx : ¬ b.getD i 0 = 255 := by assumption
                   have h1 : onesA (b.getD i 0 :: b.drop (i + 1)) ((b.length : Int) * 8 - i * 8 - n) = false := if_neg (fun e => hx (e.trans ho))
                   refine ⟨?_, rfl⟩; rw [he, h1]))
           | (have hn : 0 < (b.length : Int) * 8 - i * 8 - n := by assumption
              have ho : ownA ((b.length : Int) * 8 - i * 8 - n) = (255 : Int).fdiv (2 ^ (min (if 8 < (b.length : Int) * 8 - i * 8 - n then 8 else (b.length : Int) * 8 - i * 8 - n).toNat 8)) := if_pos hn
              first
                | (have hx : b.getD i 0 = (255 : Int).fdiv (2 ^ (min (if 8 < (b.length : Int) * 8 - i * 8 - n then 8 else (b.length : Int) * 8 - i * 8 - n).toNat 8)) := by assumption
                   have h1 : onesA (b.getD i 0 :: b.drop (i + 1)) ((b.length : Int) * 8 - i * 8 - n) = onesA (b.drop (i + 1)) ((b.length : Int) * 8 - i * 8 - n - 8) := if_pos (hx.trans ho.symm)
                   refine ⟨i + 1, ⟨hlt, ?_⟩, by dsimp only; omega, rfl, rfl⟩
                   rw [he, h1]; congr 1; omega)
                | (have hx : ¬ b.getD i 0 = (255 : Int).fdiv (2 ^ (min (if 8 < (b.length : Int) * 8 - i * 8 - n then 8 else (b.length : Int) * 8 - i * 8 - n).toNat 8)) := by assumption
                   have h1 : onesA (b.getD i 0 :: b.drop (i + 1)) ((b.length : Int) * 8 - i * 8 - n) = false := if_neg (fun e => hx (e.trans ho))
                   refine ⟨?_, rfl⟩; rw [he, h1])))
      | trace_state
  · cases e
def outA : List Int → List Int → Bool
  | x :: r, y :: l => if bitop .andNot .u8 x y = 0 then outA r l else true
  | _, _ => false
def ir_oxm_outside : IR :=
(.seq
(.keep [0, 1]
(.reg (⟨some 4, .mov (.c (.kb false)), none⟩ ::
[])))
(.seq
(.seq
(.reg (⟨some 7, .mov (.t 0), none⟩ ::
⟨some 8, .len (.t 7), none⟩ ::
⟨some 9, .mov (.c (.int .i64 0)), none⟩ ::
[]))
(.block 0
(.loop
(.seq
(.keep [1, 7, 8, 9]
(.reg (⟨some 10, .bin .lss (.t 9) (.t 8), none⟩ ::
[])))
(.seq
(.cond (.t 10)
.skip
(.exit 0))
(.seq
(.block 1
(.seq
(.keep [1, 7, 8, 9]
(.reg (⟨some 11, .mov (.t 9), none⟩ ::
⟨some 12, .indexSl 1 (.t 7) (.t 9), none⟩ ::
⟨some 13, .load none (.t 12), none⟩ ::
⟨some 5, .mov (.t 11), none⟩ ::
⟨some 6, .mov (.t 13), none⟩ ::
[])))
(.seq
(.keep [1, 5, 6, 7, 8, 9]
(.reg (⟨some 14, .mov (.t 6), none⟩ ::
⟨some 15, .mov (.t 1), none⟩ ::
⟨some 16, .mov (.t 5), none⟩ ::
⟨some 17, .indexSl 1 (.t 15) (.t 16), none⟩ ::
⟨some 18, .load none (.t 17), none⟩ ::
⟨some 19, .bin .andNot (.t 14) (.t 18), none⟩ ::
⟨some 20, .bin .neq (.t 19) (.c (.int .u8 0)), none⟩ ::
[])))
(.cond (.t 20)
(.seq
(.keep []
(.reg (⟨some 4, .mov (.c (.kb true)), none⟩ ::
[])))
.ret)
.skip))))
(.keep [1, 7, 8, 9]
(.reg (⟨some 21, .bin .add (.t 9) (.c (.int .i64 1)), none⟩ ::
⟨some 9, .mov (.t 21), none⟩ ::
[])))))))))
(.seq
(.keep []
(.reg (⟨some 4, .mov (.c (.kb false)), none⟩ ::
[])))
.ret)))
def rd_oxm_outside : List RD := [.tmp 4 true none]
theorem ok_oxm_outside : fnOk Tryz.prog Tryz.f137 ir_oxm_outside rd_oxm_outside = true := by kernel_rfl
def S_oxm_outside : List AV → List Obj → Option (Prop × AV)
  | [.imm (.int .u8) v, .imm (.int .u8) m], [] => some ((v.length ≤ m.length, .bool (outA v m)))
  | _, _ => none
theorem snd_oxm_outside : SoundS Tryz.prog 137 (RoF S_oxm_outside).sum := by
  refine ro_fn Tryz.func137 ok_oxm_outside (env_nil _) fun args objs p v e => ?_
  unfold S_oxm_outside at e
  split at e
  · rename_i v m
    cases e
    refine ⟨rfl, fun hw ho hp => ?_⟩
    change List Int at v
    change List Int at m
    have hl : m.length ≤ maxLen := (hw (.imm (.int .u8) m) (by simp)).2
    unfold maxLen at hl
    repeat' (intro t ht; first | (cases t <;> first | (cases ht; done) | ((try simp only [Bool.not_eq_eq_eq_not, Bool.not_true, Bool.not_false, Bool.and_eq_true, Bool.and_eq_false_iff, decide_eq_true_eq, decide_eq_false_iff_not] at ht); (try simp only [Int.toNat_natCast, dflt_int] at ht))) | (refine ht ?_ ?_ <;> clear ht) | (refine ht.1 ?_ ?_ <;> clear ht) | (refine ht ?_; clear ht))
    all_goals first
      | (intro r h1 h2; clear h1; refine h2 ⟨[1, 7, 8, 9], Nat, (fun i => i ≤ v.length ∧ outA v m = outA (v.drop i) (m.drop i)), fun i => [.imm (.int .u8) m, .imm (.int .u8) v, .int .i64 v.length, .int .i64 i], fun _ => [], fun i => v.length - i, ⟨0, ⟨Nat.zero_le _, rfl⟩, rfl, rfl⟩, ?_⟩; clear h2)
    rintro i ⟨hi, he⟩
    repeat' (intro t ht; first | (cases t <;> first | (cases ht; done) | ((try simp only [Bool.not_eq_eq_eq_not, Bool.not_true, Bool.not_false, Bool.and_eq_true, Bool.and_eq_false_iff, decide_eq_true_eq, decide_eq_false_iff_not] at ht); (try simp only [Int.toNat_natCast, dflt_int] at ht))) | (refine ht ?_ ?_ <;> clear ht) | (refine ht.1 ?_ ?_ <;> clear ht) | (refine ht ?_; clear ht))
    all_goals first
      | ((try simp only [Int.toNat_natCast, dflt_int, decide_eq_true_eq, decide_eq_false_iff_not, Bool.not_eq_eq_eq_not, Bool.not_true, Bool.not_false, Bool.and_eq_true, Bool.and_eq_false_iff, min_i64, max_i64, min_u64, max_u64, min_u32, max_u32, min_u16, max_u16, min_u8, max_u8] at *); omega)
      | (have h0 : v.drop i = [] := List.drop_of_length_le (by omega)
         refine ⟨?_, rfl⟩; rw [he, h0]; rfl)
      | (have hlt : i < v.length := by omega
         have hlm : i < m.length := by omega
         rw [drop_step hlt 0, drop_step hlm 0] at he
         first
           | (have hx : bitop .andNot .u8 (v.getD i 0) (m.getD i 0) = 0 := by assumption
              have h1 : outA (v.getD i 0 :: v.drop (i + 1)) (m.getD i 0 :: m.drop (i + 1)) = outA (v.drop (i + 1)) (m.drop (i + 1)) := if_pos hx
              exact ⟨i + 1, ⟨hlt, by rw [he, h1]⟩, by dsimp only; omega, rfl, rfl⟩)
           | (have hx : ¬ bitop .andNot .u8 (v.getD i 0) (m.getD i 0) = 0 := by assumption
              have h1 : outA (v.getD i 0 :: v.drop (i + 1)) (m.getD i 0 :: m.drop (i + 1)) = true := if_neg hx
              refine ⟨?_, rfl⟩; rw [he, h1]))
      | trace_state
  · cases e
def ir_r08_zeros : IR :=
(.seq
(.keep [0]
(.reg (⟨some 2, .mov (.c (.kb false)), none⟩ ::
[])))
(.seq
(.seq
(.reg (⟨some 3, .mov (.c (.int .i64 0)), none⟩ ::
[]))
(.block 0
(.loop
(.seq
(.seq
(.keep [0, 3]
(.reg (⟨some 4, .mov (.t 3), none⟩ ::
⟨some 5, .mov (.t 0), none⟩ ::
⟨some 6, .len (.t 5), none⟩ ::
⟨some 7, .bin .lss (.t 4) (.t 6), none⟩ ::
[])))
(.cond (.t 7)
.skip
(.exit 0)))
(.seq
(.block 1
(.seq
(.keep [0, 3]
(.reg (⟨some 10, .mov (.t 0), none⟩ ::
⟨some 11, .mov (.t 3), none⟩ ::
⟨some 12, .indexSl 1 (.t 10) (.t 11), none⟩ ::
⟨some 13, .load none (.t 12), none⟩ ::
⟨some 14, .bin .neq (.t 13) (.c (.int .u8 0)), none⟩ ::
[])))
(.cond (.t 14)
(.seq
(.reg (⟨some 2, .mov (.c (.kb false)), none⟩ ::
[]))
.ret)
.skip)))
(.keep [0, 3]
(.reg (⟨some 8, .mov (.t 3), none⟩ ::
⟨some 9, .bin .add (.t 8) (.c (.int .i64 1)), none⟩ ::
⟨some 3, .mov (.t 9), none⟩ ::
[]))))))))
(.seq
(.keep []
(.reg (⟨some 2, .mov (.c (.kb true)), none⟩ ::
[])))
.ret)))
def rd_r08_zeros : List RD := [.tmp 2 true none]
theorem ok_r08_zeros : fnOk Tryz.prog Tryz.f145 ir_r08_zeros rd_r08_zeros = true := by kernel_rfl
def S_r08_zeros : List AV → List Obj → Option (Prop × AV)
  | [.imm (.int .u8) b], [] => some ((True, .bool (zeroL b)))
  | _, _ => none
theorem snd_r08_zeros : SoundS Tryz.prog 145 (RoF S_r08_zeros).sum := by
  refine ro_fn Tryz.func145 ok_r08_zeros (env_nil _) fun args objs p v e => ?_
  unfold S_r08_zeros at e
  split at e
  · rename_i b
    cases e
    refine ⟨rfl, fun hw ho hp => ?_⟩
    change List Int at b
    have hl : b.length ≤ maxLen := (hw (.imm (.int .u8) b) (by simp)).2
    unfold maxLen at hl
    repeat' (intro t ht; first | (cases t <;> first | (cases ht; done) | ((try simp only [Bool.not_eq_eq_eq_not, Bool.not_true, Bool.not_false, Bool.and_eq_true, Bool.and_eq_false_iff, decide_eq_true_eq, decide_eq_false_iff_not] at ht); (try simp only [Int.toNat_natCast, dflt_int] at ht))) | (refine ht ?_ ?_ <;> clear ht) | (refine ht.1 ?_ ?_ <;> clear ht) | (refine ht ?_; clear ht))
    all_goals first
      | (intro r h1 h2; clear h1; refine h2 ⟨[0, 3], Nat, (fun i => i ≤ b.length ∧ zeroL b = zeroL (b.drop i)), fun i => [.imm (.int .u8) b, .int .i64 i], fun _ => [], fun i => b.length - i, ⟨0, ⟨Nat.zero_le _, rfl⟩, rfl, rfl⟩, ?_⟩; clear h2)
    rintro i ⟨hi, he⟩
    repeat' (intro t ht; first | (cases t <;> first | (cases ht; done) | ((try simp only [Bool.not_eq_eq_eq_not, Bool.not_true, Bool.not_false, Bool.and_eq_true, Bool.and_eq_false_iff, decide_eq_true_eq, decide_eq_false_iff_not] at ht); (try simp only [Int.toNat_natCast, dflt_int] at ht))) | (refine ht ?_ ?_ <;> clear ht) | (refine ht.1 ?_ ?_ <;> clear ht) | (refine ht ?_; clear ht))
    all_goals first
      | ((try simp only [Int.toNat_natCast, dflt_int, decide_eq_true_eq, decide_eq_false_iff_not, Bool.not_eq_eq_eq_not, Bool.not_true, Bool.not_false, Bool.and_eq_true, Bool.and_eq_false_iff, min_i64, max_i64, min_u64, max_u64, min_u32, max_u32, min_u16, max_u16, min_u8, max_u8] at *); omega)
      | (have hge : b.length ≤ i := by omega
         refine ⟨?_, rfl⟩; rw [he, List.drop_of_length_le hge]; rfl)
      | (have hlt : i < b.length := by omega
         rw [drop_step hlt 0] at he
         unfold zeroL at he
         rw [List.all_cons] at he
         first
           | (have hk : decide (b.getD i 0 = 0) = false := decide_eq_false (by assumption)
              refine ⟨?_, rfl⟩; unfold zeroL; rw [he, hk]; rfl)
           | (have hk : decide (b.getD i 0 = 0) = true := decide_eq_true (by assumption)
              rw [hk, Bool.true_and] at he
              exact ⟨i + 1, ⟨hlt, he⟩, by (try simp only [Int.toNat_natCast, dflt_int, decide_eq_true_eq, decide_eq_false_iff_not, Bool.not_eq_eq_eq_not, Bool.not_true, Bool.not_false, Bool.and_eq_true, Bool.and_eq_false_iff, min_i64, max_i64, min_u64, max_u64, min_u32, max_u32, min_u16, max_u16, min_u8, max_u8] at *); omega, rfl, rfl⟩))
      | trace_state
  · cases e
def inA : List Int → List Int → Bool
  | x :: r, y :: l => if bitop .and .u8 x y = x then inA r l else false
  | _, _ => true
def ir_r08_inside : IR :=
(.seq
(.keep [0, 1]
(.reg (⟨some 4, .mov (.c (.kb false)), none⟩ ::
[])))
(.seq
(.seq
(.reg (⟨some 5, .mov (.c (.int .i64 0)), none⟩ ::
[]))
(.block 0
(.loop
(.seq
(.seq
(.keep [0, 1, 5]
(.reg (⟨some 6, .mov (.t 5), none⟩ ::
⟨some 7, .mov (.t 0), none⟩ ::
⟨some 8, .len (.t 7), none⟩ ::
⟨some 9, .bin .lss (.t 6) (.t 8), none⟩ ::
[])))
(.cond (.t 9)
.skip
(.exit 0)))
(.seq
(.block 1
(.seq
(.keep [0, 1, 5]
(.regD ((⟨some 12, .mov (.t 0), none⟩, []) ::
(⟨some 13, .mov (.t 5), none⟩, [0]) ::
(⟨some 14, .indexSl 1 (.t 12) (.t 13), none⟩, []) ::
(⟨some 15, .load none (.t 14), none⟩, []) ::
(⟨some 16, .mov (.t 1), none⟩, [0, 0, 0, 0]) ::
(⟨some 17, .mov (.t 5), none⟩, [0, 0, 0, 0, 0]) ::
(⟨some 18, .indexSl 1 (.t 16) (.t 17), none⟩, [2, 0, 0, 0]) ::
(⟨some 19, .load none (.t 18), none⟩, [3, 0, 0, 0]) ::
(⟨some 20, .bin .and (.t 15) (.t 19), none⟩, []) ::
(⟨some 21, .mov (.t 0), none⟩, [0, 0, 0, 0, 0, 0, 0, 0, 0]) ::
(⟨some 22, .mov (.t 5), none⟩, [0, 0, 0, 0, 0, 0, 0, 0, 0, 0]) ::
(⟨some 23, .indexSl 1 (.t 21) (.t 22), none⟩, [2, 0, 0, 0, 0, 0, 0, 0, 0]) ::
(⟨some 24, .load none (.t 23), none⟩, [3, 0, 0, 0, 0, 0, 0, 0, 0]) ::
(⟨some 25, .bin .neq (.t 20) (.t 24), none⟩, []) ::
[])))
(.cond (.t 25)
(.seq
(.keep []
(.reg (⟨some 4, .mov (.c (.kb false)), none⟩ ::
[])))
.ret)
.skip)))
(.keep [0, 1, 5]
(.reg (⟨some 10, .mov (.t 5), none⟩ ::
⟨some 11, .bin .add (.t 10) (.c (.int .i64 1)), none⟩ ::
⟨some 5, .mov (.t 11), none⟩ ::
[]))))))))
(.seq
(.keep []
(.reg (⟨some 4, .mov (.c (.kb true)), none⟩ ::
[])))
.ret)))
def rd_r08_inside : List RD := [.tmp 4 true none]
theorem ok_r08_inside : fnOk Tryz.prog Tryz.f147 ir_r08_inside rd_r08_inside = true := by kernel_rfl
def S_r08_inside : List AV → List Obj → Option (Prop × AV)
  | [.imm (.int .u8) v, .imm (.int .u8) m], [] => some ((v.length ≤ m.length, .bool (inA v m)))
  | _, _ => none
theorem snd_r08_inside : SoundS Tryz.prog 147 (RoF S_r08_inside).sum := by
  refine ro_fn Tryz.func147 ok_r08_inside (env_nil _) fun args objs p v e => ?_
  unfold S_r08_inside at e
  split at e
  · rename_i v m
    cases e
    refine ⟨rfl, fun hw ho hp => ?_⟩
    change List Int at v
    change List Int at m
    have hl : m.length ≤ maxLen := (hw (.imm (.int .u8) m) (by simp)).2
    unfold maxLen at hl
    repeat' (intro t ht; first | (cases t <;> first | (cases ht; done) | ((try simp only [Bool.not_eq_eq_eq_not, Bool.not_true, Bool.not_false, Bool.and_eq_true, Bool.and_eq_false_iff, decide_eq_true_eq, decide_eq_false_iff_not] at ht); (try simp only [Int.toNat_natCast, dflt_int] at ht))) | (refine ht ?_ ?_ <;> clear ht) | (refine ht.1 ?_ ?_ <;> clear ht) | (refine ht ?_; clear ht))
    all_goals first
      | (intro r h1 h2; clear h1; refine h2 ⟨[0, 1, 5], Nat, (fun i => i ≤ v.length ∧ inA v m = inA (v.drop i) (m.drop i)), fun i => [.imm (.int .u8) v, .imm (.int .u8) m, .int .i64 i], fun _ => [], fun i => v.length - i, ⟨0, ⟨Nat.zero_le _, rfl⟩, rfl, rfl⟩, ?_⟩; clear h2)
    rintro i ⟨hi, he⟩
    repeat' (intro t ht; first | (cases t <;> first | (cases ht; done) | ((try simp only [Bool.not_eq_eq_eq_not, Bool.not_true, Bool.not_false, Bool.and_eq_true, Bool.and_eq_false_iff, decide_eq_true_eq, decide_eq_false_iff_not] at ht); (try simp only [Int.toNat_natCast, dflt_int] at ht))) | (refine ht ?_ ?_ <;> clear ht) | (refine ht.1 ?_ ?_ <;> clear ht) | (refine ht ?_; clear ht))
    all_goals first
      | ((try simp only [Int.toNat_natCast, dflt_int, decide_eq_true_eq, decide_eq_false_iff_not, Bool.not_eq_eq_eq_not, Bool.not_true, Bool.not_false, Bool.and_eq_true, Bool.and_eq_false_iff, min_i64, max_i64, min_u64, max_u64, min_u32, max_u32, min_u16, max_u16, min_u8, max_u8] at *); omega)
      | (have h0 : v.drop i = [] := List.drop_of_length_le (by omega)
         refine ⟨?_, rfl⟩; rw [he, h0]; rfl)
      | (have hlt : i < v.length := by omega
         have hlm : i < m.length := by omega
         rw [drop_step hlt 0, drop_step hlm 0] at he
         first
           | (have hx : bitop .and .u8 (v.getD i 0) (m.getD i 0) = v.getD i 0 := by assumption
              have h1 : inA (v.getD i 0 :: v.drop (i + 1)) (m.getD i 0 :: m.drop (i + 1)) = inA (v.drop (i + 1)) (m.drop (i + 1)) := if_pos hx
              exact ⟨i + 1, ⟨hlt, by rw [he, h1]⟩, by dsimp only; omega, rfl, rfl⟩)
           | (have hx : ¬ bitop .and .u8 (v.getD i 0) (m.getD i 0) = v.getD i 0 := by assumption
              have h1 : inA (v.getD i 0 :: v.drop (i + 1)) (m.getD i 0 :: m.drop (i + 1)) = false := if_neg hx
              refine ⟨?_, rfl⟩; rw [he, h1]))
      | trace_state
  · cases e
def refO (b : List Int) : Nat → Int → Bool
  | 0, _ => true
  | f + 1, i => if bitop .and .u8 ((b.getD (b.length - 1 - i.tdiv 8 : Int).toNat 0).fdiv (2 ^ (min (i.tmod 8).toNat 8))) 1 = 0 then false else refO b f (i + 1)
theorem refO_f {b : List Int} {f : Nat} {i : Int} (h : bitop .and .u8 ((b.getD (b.length - 1 - i.tdiv 8 : Int).toNat 0).fdiv (2 ^ (min (i.tmod 8).toNat 8))) 1 = 0) : refO b (f + 1) i = false := if_pos h
theorem refO_t {b : List Int} {f : Nat} {i : Int} (h : ¬ bitop .and .u8 ((b.getD (b.length - 1 - i.tdiv 8 : Int).toNat 0).fdiv (2 ^ (min (i.tmod 8).toNat 8))) 1 = 0) : refO b (f + 1) i = refO b f (i + 1) := if_neg h
def ir_r08_ones : IR :=
(.seq
(.keep [0, 1]
(.reg (⟨some 4, .mov (.c (.kb false)), none⟩ ::
[])))
(.seq
(.seq
(.reg (⟨some 5, .mov (.c (.int .i64 0)), none⟩ ::
[]))
(.block 0
(.loop
(.seq
(.seq
(.keep [0, 1, 5]
(.reg (⟨some 6, .mov (.t 5), none⟩ ::
⟨some 7, .mov (.t 1), none⟩ ::
⟨some 8, .bin .lss (.t 6) (.t 7), none⟩ ::
[])))
(.cond (.t 8)
.skip
(.exit 0)))
(.seq
(.block 1
(.seq
(.keep [0, 1, 5]
(.reg (⟨some 11, .mov (.t 0), none⟩ ::
⟨some 12, .mov (.t 0), none⟩ ::
⟨some 13, .len (.t 12), none⟩ ::
⟨some 14, .bin .sub (.t 13) (.c (.int .i64 1)), none⟩ ::
⟨some 15, .mov (.t 5), none⟩ ::
⟨some 16, .bin .quo (.t 15) (.c (.int .i64 8)), none⟩ ::
⟨some 17, .bin .sub (.t 14) (.t 16), none⟩ ::
⟨some 18, .indexSl 1 (.t 11) (.t 17), none⟩ ::
⟨some 19, .load none (.t 18), none⟩ ::
⟨some 20, .mov (.t 5), none⟩ ::
⟨some 21, .bin .rem (.t 20) (.c (.int .i64 8)), none⟩ ::
⟨some 22, .bin .shr (.t 19) (.t 21), none⟩ ::
⟨some 23, .bin .and (.t 22) (.c (.int .u8 1)), none⟩ ::
⟨some 24, .bin .eql (.t 23) (.c (.int .u8 0)), none⟩ ::
[])))
(.cond (.t 24)
(.seq
(.keep []
(.reg (⟨some 4, .mov (.c (.kb false)), none⟩ ::
[])))
.ret)
.skip)))
(.keep [0, 1, 5]
(.reg (⟨some 9, .mov (.t 5), none⟩ ::
⟨some 10, .bin .add (.t 9) (.c (.int .i64 1)), none⟩ ::
⟨some 5, .mov (.t 10), none⟩ ::
[]))))))))
(.seq
(.keep []
(.reg (⟨some 4, .mov (.c (.kb true)), none⟩ ::
[])))
.ret)))
def rd_r08_ones : List RD := [.tmp 4 true none]
theorem ok_r08_ones : fnOk Tryz.prog Tryz.f146 ir_r08_ones rd_r08_ones = true := by kernel_rfl
def S_r08_ones : List AV → List Obj → Option (Prop × AV)
  | [.imm (.int .u8) b, .int .i64 n], [] => some ((0 ≤ n ∧ n ≤ 8 * b.length ∧ b.length ≤ 1000000, .bool (refO b n.toNat 0)))
  | _, _ => none
theorem snd_r08_ones : SoundS Tryz.prog 146 (RoF S_r08_ones).sum := by
  refine ro_fn Tryz.func146 ok_r08_ones (env_nil _) fun args objs p v e => ?_
  unfold S_r08_ones at e
  split at e
  · rename_i b n
    cases e
    refine ⟨rfl, fun hw ho hp => ?_⟩
    change List Int at b
    repeat' (intro t ht; first | (cases t <;> first | (cases ht; done) | ((try simp only [Bool.not_eq_eq_eq_not, Bool.not_true, Bool.not_false, Bool.and_eq_true, Bool.and_eq_false_iff, decide_eq_true_eq, decide_eq_false_iff_not] at ht); (try simp only [Int.toNat_natCast, dflt_int] at ht))) | (refine ht ?_ ?_ <;> clear ht) | (refine ht.1 ?_ ?_ <;> clear ht) | (refine ht ?_; clear ht))
    all_goals first
      | (intro r h1 h2; clear h1; refine h2 ⟨[0, 1, 5], Nat, (fun i => (i : Int) ≤ n ∧ refO b n.toNat 0 = refO b (n.toNat - i) i), fun i => [.imm (.int .u8) b, .int .i64 n, .int .i64 i], fun _ => [], fun i => n.toNat - i, ⟨0, ⟨hp.1, rfl⟩, rfl, rfl⟩, ?_⟩; clear h2)
    rintro i ⟨hi, he⟩
    have htd : (i : Int).tdiv 8 = i / 8 := tdiv_nn (by omega)
    have htm : (i : Int).tmod 8 = i % 8 := tmod_nn (by omega)
    repeat' (intro t ht; first | (cases t <;> first | (cases ht; done) | ((try simp only [Bool.not_eq_eq_eq_not, Bool.not_true, Bool.not_false, Bool.and_eq_true, Bool.and_eq_false_iff, decide_eq_true_eq, decide_eq_false_iff_not] at ht); (try simp only [Int.toNat_natCast, dflt_int] at ht))) | (refine ht ?_ ?_ <;> clear ht) | (refine ht.1 ?_ ?_ <;> clear ht) | (refine ht ?_; clear ht))
    all_goals first
      | exact (by decide)
      | ((try simp only [Int.toNat_natCast, dflt_int, decide_eq_true_eq, decide_eq_false_iff_not, Bool.not_eq_eq_eq_not, Bool.not_true, Bool.not_false, Bool.and_eq_true, Bool.and_eq_false_iff, min_i64, max_i64, min_u64, max_u64, min_u32, max_u32, min_u16, max_u16, min_u8, max_u8] at *); omega)
      | ((try simp only [Int.toNat_natCast, dflt_int, decide_eq_true_eq, decide_eq_false_iff_not, Bool.not_eq_eq_eq_not, Bool.not_true, Bool.not_false, Bool.and_eq_true, Bool.and_eq_false_iff, min_i64, max_i64, min_u64, max_u64, min_u32, max_u32, min_u16, max_u16, min_u8, max_u8] at *); simp only [htd, htm]; omega)
      | (have h0 : n.toNat - i = 0 := by omega
         refine ⟨?_, rfl⟩; rw [he, h0]; rfl)
      | (have h1 : n.toNat - i = (n.toNat - (i + 1)) + 1 := by omega
         rw [h1] at he
         first
           | (have hf := refO_f (f := n.toNat - (i + 1)) (b := b) (i := i) (by assumption)
              refine ⟨?_, rfl⟩; rw [he, hf])
           | (have hf := refO_t (f := n.toNat - (i + 1)) (b := b) (i := i) (by assumption)
              exact ⟨i + 1, ⟨by omega, by rw [he, hf]; rfl⟩, by dsimp only; omega, rfl, rfl⟩))
      | trace_state
  · cases e
def ofOk (c f : Int) : Bool := if c = 65535 then decide (0 ≤ f) && decide (f ≤ 127) else fIs f && decide (c = 32768)
def ofSize (c f : Int) : Int := if c = 65535 then 100 else fSize f
def ofBits (c f : Int) : Int := if c = 65535 then 0 else fBits f
def ofMask (c f : Int) : Bool := if c = 65535 then true else fMask f
def ofExtra (c : Int) : Bool := decide (c = 65535)
theorem fK : ∀ k < 40, 0 ≤ fSize (k : Nat) ∧ fSize (k : Nat) ≤ 16 ∧ 0 ≤ fBits (k : Nat) ∧ fBits (k : Nat) ≤ 128 := by decide +kernel
theorem f_le (f : Int) : 0 ≤ fSize f ∧ fSize f ≤ 16 ∧ 0 ≤ fBits f ∧ fBits f ≤ 128 := by
  cases h : fIs f with
  | true =>
    have hn := fIs_t.1 h
    have := fK f.toNat (by omega)
    rwa [Int.toNat_of_nonneg hn.1] at this
  | false => unfold fSize fBits; rw [h]; simp
theorem of_le (c f : Int) : 0 ≤ ofSize c f ∧ ofSize c f ≤ 100 ∧ 0 ≤ ofBits c f ∧ ofBits c f ≤ 128 := by
  have := f_le f
  unfold ofSize ofBits; split <;> omega
def ir_oxm_of : IR :=
(.seq
(.keep [0]
(.reg (⟨some 1, .boxv (.t 0), none⟩ ::
⟨some 2, .box [.int .i64 0, .int .i64 0, .kb false, .kb false], none⟩ ::
⟨some 3, .mov (.c (.kb false)), none⟩ ::
[])))
(.seq
(.seq
(.reg (⟨some 6, .fieldAddr 0 (.t 1), none⟩ ::
⟨some 7, .load none (.t 6), none⟩ ::
⟨some 8, .bin .eql (.t 7) (.c (.int .i64 65535)), none⟩ ::
[]))
(.cond (.t 8)
(.seq
(.keep [1, 2]
(.regD ((⟨some 9, .build [.int .i64 0, .int .i64 0, .kb false, .kb false] [(0, 1, (.c (.int .i64 100))), (2, 1, (.c (.kb true))), (3, 1, (.c (.kb true)))], none⟩, []) ::
(⟨some 10, .fieldAddr 1 (.t 1), none⟩, [0]) ::
(⟨some 11, .load none (.t 10), none⟩, [1]) ::
(⟨some 12, .bin .geq (.t 11) (.c (.int .i64 0)), none⟩, [2]) ::
(⟨some 13, .mov (.t 12), none⟩, [3]) ::
(⟨some 14, .fieldAddr 1 (.t 1), some (13, true)⟩, [4]) ::
(⟨some 15, .load none (.t 14), some (13, true)⟩, [5]) ::
(⟨some 16, .bin .leq (.t 15) (.c (.int .i64 127)), some (13, true)⟩, [6]) ::
(⟨some 17, .pick (.t 13) (.t 16) (.c (.kb false)), none⟩, [7]) ::
(⟨none, .store 4 (.t 2) (.t 9), none⟩, [0, 0, 0, 0]) ::
(⟨some 3, .mov (.t 17), none⟩, []) ::
[])))
.ret)
.skip))
(.seq
(.keep [1, 2]
(.reg (⟨some 19, .fieldAddr 1 (.t 1), none⟩ ::
⟨some 20, .load none (.t 19), none⟩ ::
⟨some 21, .call false (.f 133) [(.t 20)], none⟩ ::
⟨some 18, .mov (.t 21), none⟩ ::
⟨some 22, .extract (.t 18) 0, none⟩ ::
⟨some 23, .extract (.t 18) 1, none⟩ ::
⟨some 4, .box [.int .i64 0, .int .i64 0, .kb false, .int .i64 0, .imm (.int .u64) []], none⟩ ::
⟨none, .store 5 (.t 4) (.t 22), none⟩ ::
⟨some 5, .mov (.t 23), none⟩ ::
[])))
(.seq
(.keep [1, 2, 4, 5]
(.regD ((⟨some 24, .fieldAddr 1 (.t 4), none⟩, []) ::
(⟨some 25, .load none (.t 24), none⟩, []) ::
(⟨some 26, .fieldAddr 0 (.t 4), none⟩, [0, 0]) ::
(⟨some 27, .load none (.t 26), none⟩, [1, 0]) ::
(⟨some 28, .fieldAddr 2 (.t 4), none⟩, [0, 0, 0, 0]) ::
(⟨some 29, .load none (.t 28), none⟩, [1, 0, 0, 0]) ::
(⟨some 30, .build [.int .i64 0, .int .i64 0, .kb false, .kb false] [(0, 1, (.t 25)), (1, 1, (.t 27)), (2, 1, (.t 29))], none⟩, []) ::
(⟨some 31, .mov (.t 5), none⟩, [0, 0, 0, 0, 0, 0, 0]) ::
(⟨some 32, .mov (.t 31), none⟩, [1, 0, 0, 0, 0, 0, 0]) ::
(⟨some 33, .fieldAddr 0 (.t 1), some (32, true)⟩, [2, 0, 0, 0, 0, 0, 0]) ::
(⟨some 34, .load none (.t 33), some (32, true)⟩, [3, 0, 0, 0, 0, 0, 0]) ::
(⟨some 35, .bin .eql (.t 34) (.c (.int .i64 32768)), some (32, true)⟩, [4, 0, 0, 0, 0, 0, 0]) ::
(⟨some 36, .pick (.t 32) (.t 35) (.c (.kb false)), none⟩, [5, 0, 0, 0, 0, 0, 0]) ::
(⟨none, .store 4 (.t 2) (.t 30), none⟩, [0, 0, 0, 0]) ::
(⟨some 3, .mov (.t 36), none⟩, []) ::
[])))
.ret))))
def rd_oxm_of : List RD := [.cell 2 (some 4) true [], .tmp 3 true none]
theorem ok_oxm_of : fnOk Tryz.prog Tryz.f109 ir_oxm_of rd_oxm_of = true := by kernel_rfl
def S_oxm_of : List AV → List Obj → Option (Prop × AV)
  | [.agg [.int .i64 c, .int .i64 f, .bool h, .int .u64 x, .imm (.int .u8) v, .imm (.int .u8) m]], [] => some ((True, .tup [.agg [.int .i64 (ofSize c f), .int .i64 (ofBits c f), .bool (ofMask c f), .bool (ofExtra c)], .bool (ofOk c f)]))
  | _, _ => none
theorem snd_oxm_of : SoundS Tryz.prog 109 (RoF S_oxm_of).sum := by
  refine ro_fn Tryz.func109 ok_oxm_of (env_cons (s := RoF S_field_Of) snd_field_Of (env_nil _)) fun args objs p v e => ?_
  unfold S_oxm_of at e
  split at e
  · rename_i c f h x v m
    cases e
    refine ⟨rfl, fun hw ho hp => ?_⟩
    change List Int at v
    change List Int at m
    repeat' (intro t ht; first | (cases t <;> first | (cases ht; done) | ((try simp only [Bool.not_eq_eq_eq_not, Bool.not_true, Bool.not_false, Bool.and_eq_true, Bool.and_eq_false_iff, decide_eq_true_eq, decide_eq_false_iff_not] at ht); (try simp only [Int.toNat_natCast, dflt_int] at ht))) | (refine ht ?_ ?_ <;> clear ht) | (refine ht.1 ?_ ?_ <;> clear ht) | (refine ht ?_; clear ht))
    all_goals first
      | exact True.intro
      | (simp_all [ofOk, ofSize, ofBits, ofMask, ofExtra]; done)
      | (simp_all [ofOk, ofSize, ofBits, ofMask, ofExtra]; omega)
      | trace_state
  · cases e
def wrongF (f : Int) (h : Bool) (v m : List Int) (bits : Int) (ex : Bool) : Int :=
  if ex = false ∧ fitsF f v = false then 1032 else if h = true ∧ ex = false ∧ fitsF f m = false then 1033
  else if h = true ∧ (zeroL m = true ∨ onesF m (if ex = true then m.length * 8 else bits) = true) then 1033 else if h = true ∧ outA v m = true then 1030 else 0
def ir_oxm_wrong : IR :=
(.seq
(.keep [0, 1]
(.reg (⟨some 2, .boxv (.t 0), none⟩ ::
⟨some 3, .boxv (.t 1), none⟩ ::
⟨some 4, .mov (.c (.int .i64 0)), none⟩ ::
[])))
(.seq
(.seq
(.reg (⟨some 5, .fieldAddr 3 (.t 3), none⟩ ::
⟨some 6, .load none (.t 5), none⟩ ::
[]))
(.cond (.t 6)
(.keep [2, 3]
(.reg (⟨some 7, .fieldAddr 5 (.t 2), none⟩ ::
⟨some 8, .load none (.t 7), none⟩ ::
⟨some 9, .len (.t 8), none⟩ ::
⟨some 10, .bin .mul (.t 9) (.c (.int .i64 8)), none⟩ ::
⟨some 11, .fieldAddr 1 (.t 3), none⟩ ::
⟨none, .store 1 (.t 11) (.t 10), none⟩ ::
[])))
.skip))
(.seq
(.block 0
(.seq
(.block 3
(.block 2
(.seq
(.block 1
(.seq
(.seq
(.seq
(.keep [2, 3]
(.reg (⟨some 13, .fieldAddr 3 (.t 3), none⟩ ::
⟨some 14, .load none (.t 13), none⟩ ::
⟨some 15, .un .not (.t 14), none⟩ ::
⟨some 16, .mov (.t 15), none⟩ ::
⟨some 17, .fieldAddr 1 (.t 2), some (16, true)⟩ ::
⟨some 18, .load none (.t 17), some (16, true)⟩ ::
⟨some 19, .fieldAddr 4 (.t 2), some (16, true)⟩ ::
⟨some 20, .load none (.t 19), some (16, true)⟩ ::
⟨some 21, .call false (.f 134) [(.t 18), (.t 20)], some (16, true)⟩ ::
⟨some 22, .un .not (.t 21), some (16, true)⟩ ::
⟨some 23, .pick (.t 16) (.t 22) (.c (.kb false)), none⟩ ::
⟨some 12, .mov (.t 23), none⟩ ::
[])))
(.cond (.t 12)
(.exit 1)
.skip))
(.seq
(.seq
(.keep [2, 3]
(.reg (⟨some 25, .fieldAddr 2 (.t 2), none⟩ ::
⟨some 26, .load none (.t 25), none⟩ ::
⟨some 27, .mov (.t 26), none⟩ ::
⟨some 28, .fieldAddr 3 (.t 3), some (27, true)⟩ ::
⟨some 29, .load none (.t 28), some (27, true)⟩ ::
⟨some 30, .un .not (.t 29), some (27, true)⟩ ::
⟨some 31, .pick (.t 27) (.t 30) (.c (.kb false)), none⟩ ::
⟨some 32, .mov (.t 31), none⟩ ::
⟨some 33, .fieldAddr 1 (.t 2), some (32, true)⟩ ::
⟨some 34, .load none (.t 33), some (32, true)⟩ ::
⟨some 35, .fieldAddr 5 (.t 2), some (32, true)⟩ ::
⟨some 36, .load none (.t 35), some (32, true)⟩ ::
⟨some 37, .call false (.f 134) [(.t 34), (.t 36)], some (32, true)⟩ ::
⟨some 38, .un .not (.t 37), some (32, true)⟩ ::
⟨some 39, .pick (.t 32) (.t 38) (.c (.kb false)), none⟩ ::
⟨some 24, .mov (.t 39), none⟩ ::
[])))
(.cond (.t 24)
(.exit 2)
.skip))
(.seq
(.keep [2, 3]
(.reg (⟨some 41, .fieldAddr 2 (.t 2), none⟩ ::
⟨some 42, .load none (.t 41), none⟩ ::
⟨some 43, .mov (.t 42), none⟩ ::
⟨some 44, .fieldAddr 5 (.t 2), some (43, true)⟩ ::
⟨some 45, .load none (.t 44), some (43, true)⟩ ::
⟨some 46, .call false (.f 135) [(.t 45)], some (43, true)⟩ ::
⟨some 47, .mov (.t 46), some (43, true)⟩ ::
⟨some 48, .fieldAddr 5 (.t 2), some (47, false)⟩ ::
⟨some 49, .load none (.t 48), some (47, false)⟩ ::
⟨some 50, .fieldAddr 1 (.t 3), some (47, false)⟩ ::
⟨some 51, .load none (.t 50), some (47, false)⟩ ::
⟨some 52, .call false (.f 136) [(.t 49), (.t 51)], some (47, false)⟩ ::
⟨some 53, .pick (.t 47) (.c (.kb true)) (.t 52), some (43, true)⟩ ::
⟨some 54, .pick (.t 43) (.t 53) (.c (.kb false)), none⟩ ::
⟨some 40, .mov (.t 54), none⟩ ::
[])))
(.cond (.t 40)
(.exit 3)
.skip))))
(.exit 0)))
(.seq
(.seq
(.keep []
(.reg (⟨some 4, .mov (.c (.int .i64 1032)), none⟩ ::
[])))
.ret)
(.exit 0)))))
(.seq
(.seq
(.keep []
(.reg (⟨some 4, .mov (.c (.int .i64 1033)), none⟩ ::
[])))
.ret)
(.exit 0))))
(.seq
(.seq
(.keep [2]
(.reg (⟨some 55, .fieldAddr 2 (.t 2), none⟩ ::
⟨some 56, .load none (.t 55), none⟩ ::
⟨some 57, .mov (.t 56), none⟩ ::
⟨some 58, .fieldAddr 4 (.t 2), some (57, true)⟩ ::
⟨some 59, .load none (.t 58), some (57, true)⟩ ::
⟨some 60, .fieldAddr 5 (.t 2), some (57, true)⟩ ::
⟨some 61, .load none (.t 60), some (57, true)⟩ ::
⟨some 62, .call false (.f 137) [(.t 59), (.t 61)], some (57, true)⟩ ::
⟨some 63, .pick (.t 57) (.t 62) (.c (.kb false)), none⟩ ::
[])))
(.cond (.t 63)
(.seq
(.keep []
(.reg (⟨some 4, .mov (.c (.int .i64 1030)), none⟩ ::
[])))
.ret)
.skip))
(.seq
(.keep []
(.reg (⟨some 4, .mov (.c (.int .i64 0)), none⟩ ::
[])))
.ret)))))
def rd_oxm_wrong : List RD := [.tmp 4 true none]
theorem ok_oxm_wrong : fnOk Tryz.prog Tryz.f110 ir_oxm_wrong rd_oxm_wrong = true := by kernel_rfl
def S_oxm_wrong : List AV → List Obj → Option (Prop × AV)
  | [.agg [.int .i64 c, .int .i64 f, .bool h, .int .u64 x, .imm (.int .u8) v, .imm (.int .u8) m], .agg [.int .i64 sz, .int .i64 bits, .bool mk, .bool ex]], [] => some (((h = true → v.length ≤ m.length) ∧ m.length ≤ 100000 ∧ 0 ≤ bits ∧ bits ≤ 1000000, .int .i64 (wrongF f h v m bits ex)))
  | _, _ => none
theorem snd_oxm_wrong : SoundS Tryz.prog 110 (RoF S_oxm_wrong).sum := by
  refine ro_fn Tryz.func110 ok_oxm_wrong (env_cons (s := RoF S_field_Fits) snd_field_Fits (env_cons (s := RoF S_oxm_blank) snd_oxm_blank (env_cons (s := RoF S_oxm_ones) snd_oxm_ones (env_cons (s := RoF S_oxm_outside) snd_oxm_outside (env_nil _))))) fun args objs p v e => ?_
  unfold S_oxm_wrong at e
  split at e
  · rename_i c f h x v m sz bits mk ex
    cases e
    refine ⟨rfl, fun hw ho hp => ?_⟩
    change List Int at v
    change List Int at m
    cases h <;> cases ex
    all_goals repeat' (intro t ht; first | (cases t <;> first | (cases ht; done) | ((try simp only [Bool.not_eq_eq_eq_not, Bool.not_true, Bool.not_false, Bool.and_eq_true, Bool.and_eq_false_iff, decide_eq_true_eq, decide_eq_false_iff_not] at ht); (try simp only [Int.toNat_natCast, dflt_int] at ht))) | (refine ht ?_ ?_ <;> clear ht) | (refine ht.1 ?_ ?_ <;> clear ht) | (refine ht ?_; clear ht))
    all_goals first
      | exact True.intro
      | exact hp.1 rfl
      | ((try simp only [Int.toNat_natCast, dflt_int, decide_eq_true_eq, decide_eq_false_iff_not, Bool.not_eq_eq_eq_not, Bool.not_true, Bool.not_false, Bool.and_eq_true, Bool.and_eq_false_iff, min_i64, max_i64, min_u64, max_u64, min_u32, max_u32, min_u16, max_u16, min_u8, max_u8] at *); omega)
      | (unfold wrongF; simp_all; done)
      | trace_state
  · cases e
def restO (c : Int) (v m : List Int) : Int := if c = 65535 then (v.length : Int) + m.length + 4 else (v.length : Int) + m.length
def rightO (c f : Int) (h : Bool) (x : Int) (v m : List Int) : Bool :=
  ofOk c f && (!h || ofMask c f) && (ofExtra c || decide (x = 0)) && decide (x.fdiv (2 ^ (min (Int.toNat 32) IntKind.u64.bits)) = 0) &&
    (match h with | true => decide ((m.length : Int) = v.length) | false => decide (m.length = 0)) && decide ((v.length : Int) ≤ ofSize c f) && decide (wrongF f h v m (ofBits c f) (ofExtra c) = 0)
def ir_oxm_Right : IR :=
(.seq
(.keep [0]
(.reg (⟨some 1, .boxv (.t 0), none⟩ ::
⟨some 2, .mov (.c (.kb false)), none⟩ ::
[])))
(.seq
(.keep [1]
(.reg (⟨some 6, .load (some 6) (.t 1), none⟩ ::
⟨some 7, .call false (.f 109) [(.t 6)], none⟩ ::
⟨some 5, .mov (.t 7), none⟩ ::
⟨some 8, .extract (.t 5) 0, none⟩ ::
⟨some 9, .extract (.t 5) 1, none⟩ ::
⟨some 3, .box [.int .i64 0, .int .i64 0, .kb false, .kb false], none⟩ ::
⟨none, .store 4 (.t 3) (.t 8), none⟩ ::
⟨some 4, .mov (.t 9), none⟩ ::
[])))
(.seq
(.block 0
(.seq
(.block 4
(.seq
(.block 3
(.block 2
(.seq
(.block 1
(.seq
(.seq
(.seq
(.keep [1, 3, 4]
(.reg (⟨some 11, .mov (.t 4), none⟩ ::
⟨some 12, .un .not (.t 11), none⟩ ::
⟨some 13, .mov (.t 12), none⟩ ::
⟨some 14, .fieldAddr 2 (.t 1), some (13, false)⟩ ::
⟨some 15, .load none (.t 14), some (13, false)⟩ ::
⟨some 16, .mov (.t 15), some (13, false)⟩ ::
⟨some 17, .fieldAddr 2 (.t 3), some (16, true)⟩ ::
⟨some 18, .load none (.t 17), some (16, true)⟩ ::
⟨some 19, .un .not (.t 18), some (16, true)⟩ ::
⟨some 20, .pick (.t 16) (.t 19) (.c (.kb false)), some (13, false)⟩ ::
⟨some 21, .pick (.t 13) (.c (.kb true)) (.t 20), none⟩ ::
⟨some 10, .mov (.t 21), none⟩ ::
[])))
(.cond (.t 10)
(.exit 1)
.skip))
(.seq
(.seq
(.keep [1, 3]
(.reg (⟨some 23, .fieldAddr 3 (.t 3), none⟩ ::
⟨some 24, .load none (.t 23), none⟩ ::
⟨some 25, .un .not (.t 24), none⟩ ::
⟨some 26, .mov (.t 25), none⟩ ::
⟨some 27, .fieldAddr 3 (.t 1), some (26, true)⟩ ::
⟨some 28, .load none (.t 27), some (26, true)⟩ ::
⟨some 29, .bin .neq (.t 28) (.c (.int .u64 0)), some (26, true)⟩ ::
⟨some 30, .pick (.t 26) (.t 29) (.c (.kb false)), none⟩ ::
⟨some 22, .mov (.t 30), none⟩ ::
[])))
(.cond (.t 22)
(.exit 2)
.skip))
(.seq
(.seq
(.keep [1, 3]
(.reg (⟨some 32, .fieldAddr 3 (.t 1), none⟩ ::
⟨some 33, .load none (.t 32), none⟩ ::
⟨some 34, .bin .shr (.t 33) (.c (.int .u64 32)), none⟩ ::
⟨some 35, .bin .neq (.t 34) (.c (.int .u64 0)), none⟩ ::
⟨some 31, .mov (.t 35), none⟩ ::
[])))
(.cond (.t 31)
(.exit 3)
.skip))
(.seq
(.keep [1, 3]
(.reg (⟨some 37, .fieldAddr 2 (.t 1), none⟩ ::
⟨some 38, .load none (.t 37), none⟩ ::
⟨some 39, .mov (.t 38), none⟩ ::
⟨some 40, .fieldAddr 5 (.t 1), some (39, true)⟩ ::
⟨some 41, .load none (.t 40), some (39, true)⟩ ::
⟨some 42, .len (.t 41), some (39, true)⟩ ::
⟨some 43, .fieldAddr 4 (.t 1), some (39, true)⟩ ::
⟨some 44, .load none (.t 43), some (39, true)⟩ ::
⟨some 45, .len (.t 44), some (39, true)⟩ ::
⟨some 46, .bin .neq (.t 42) (.t 45), some (39, true)⟩ ::
⟨some 47, .pick (.t 39) (.t 46) (.c (.kb false)), none⟩ ::
⟨some 48, .mov (.t 47), none⟩ ::
⟨some 49, .fieldAddr 2 (.t 1), some (48, false)⟩ ::
⟨some 50, .load none (.t 49), some (48, false)⟩ ::
⟨some 51, .un .not (.t 50), some (48, false)⟩ ::
⟨some 52, .mov (.t 51), some (48, false)⟩ ::
⟨some 53, .fieldAddr 5 (.t 1), some (52, true)⟩ ::
⟨some 54, .load none (.t 53), some (52, true)⟩ ::
⟨some 55, .len (.t 54), some (52, true)⟩ ::
⟨some 56, .bin .gtr (.t 55) (.c (.int .i64 0)), some (52, true)⟩ ::
⟨some 57, .pick (.t 52) (.t 56) (.c (.kb false)), some (48, false)⟩ ::
⟨some 58, .pick (.t 48) (.c (.kb true)) (.t 57), none⟩ ::
⟨some 59, .mov (.t 58), none⟩ ::
⟨some 60, .fieldAddr 4 (.t 1), some (59, false)⟩ ::
⟨some 61, .load none (.t 60), some (59, false)⟩ ::
⟨some 62, .len (.t 61), some (59, false)⟩ ::
⟨some 63, .fieldAddr 0 (.t 3), some (59, false)⟩ ::
⟨some 64, .load none (.t 63), some (59, false)⟩ ::
⟨some 65, .bin .gtr (.t 62) (.t 64), some (59, false)⟩ ::
⟨some 66, .pick (.t 59) (.c (.kb true)) (.t 65), none⟩ ::
⟨some 36, .mov (.t 66), none⟩ ::
[])))
(.cond (.t 36)
(.exit 4)
.skip)))))
(.exit 0)))
(.seq
(.seq
(.keep []
(.reg (⟨some 2, .mov (.c (.kb false)), none⟩ ::
[])))
.ret)
(.exit 0)))))
(.seq
(.seq
(.keep []
(.reg (⟨some 2, .mov (.c (.kb false)), none⟩ ::
[])))
.ret)
(.exit 0))))
(.seq
(.seq
(.keep []
(.reg (⟨some 2, .mov (.c (.kb false)), none⟩ ::
[])))
.ret)
(.exit 0))))
(.seq
(.keep [1, 3]
(.reg (⟨some 67, .load (some 6) (.t 1), none⟩ ::
⟨some 68, .load (some 4) (.t 3), none⟩ ::
⟨some 69, .call false (.f 110) [(.t 67), (.t 68)], none⟩ ::
⟨some 70, .bin .eql (.t 69) (.c (.int .i64 0)), none⟩ ::
⟨some 2, .mov (.t 70), none⟩ ::
[])))
.ret))))
def rd_oxm_Right : List RD := [.tmp 2 true none]
theorem ok_oxm_Right : fnOk Tryz.prog Tryz.f70 ir_oxm_Right rd_oxm_Right = true := by kernel_rfl
def S_oxm_Right : List AV → List Obj → Option (Prop × AV)
  | [.agg [.int .i64 c, .int .i64 f, .bool h, .int .u64 x, .imm (.int .u8) v, .imm (.int .u8) m]], [] => some ((v.length ≤ 1000000 ∧ m.length ≤ 1000000, .bool (rightO c f h x v m)))
  | _, _ => none
theorem snd_oxm_Right : SoundS Tryz.prog 70 (RoF S_oxm_Right).sum := by
  refine ro_fn Tryz.func70 ok_oxm_Right (env_cons (s := RoF S_oxm_of) snd_oxm_of (env_cons (s := RoF S_oxm_wrong) snd_oxm_wrong (env_nil _))) fun args objs p v e => ?_
  unfold S_oxm_Right at e
  split at e
  · rename_i c f h x v m
    cases e
    refine ⟨rfl, fun hw ho hp => ?_⟩
    change List Int at v
    change List Int at m
    have hof := of_le c f
    cases h
    all_goals repeat' (intro t ht; first | (cases t <;> first | (cases ht; done) | ((try simp only [Bool.not_eq_eq_eq_not, Bool.not_true, Bool.not_false, Bool.and_eq_true, Bool.and_eq_false_iff, decide_eq_true_eq, decide_eq_false_iff_not] at ht); (try simp only [Int.toNat_natCast, dflt_int] at ht))) | (refine ht ?_ ?_ <;> clear ht) | (refine ht.1 ?_ ?_ <;> clear ht) | (refine ht ?_; clear ht))
    all_goals first
      | exact True.intro
      | exact (by decide)
      | (refine ⟨fun h => ?_, ?_, ?_, ?_⟩ <;> first | omega | (cases h; done))
      | (unfold rightO; simp_all; done)
      | (have h0 : ¬ m.length = 0 := by omega
         unfold rightO; simp_all; done)
      | (unfold rightO; simp_all; omega)
      | trace_state
  · cases e
def ir_oxm_rest : IR :=
(.seq
(.keep [0]
(.reg (⟨some 1, .boxv (.t 0), none⟩ ::
⟨some 2, .mov (.c (.int .i64 0)), none⟩ ::
[])))
(.seq
(.keep [1]
(.reg (⟨some 4, .fieldAddr 4 (.t 1), none⟩ ::
⟨some 5, .load none (.t 4), none⟩ ::
⟨some 6, .len (.t 5), none⟩ ::
⟨some 7, .fieldAddr 5 (.t 1), none⟩ ::
⟨some 8, .load none (.t 7), none⟩ ::
⟨some 9, .len (.t 8), none⟩ ::
⟨some 10, .bin .add (.t 6) (.t 9), none⟩ ::
⟨some 3, .mov (.t 10), none⟩ ::
[])))
(.seq
(.seq
(.keep [1, 3]
(.reg (⟨some 11, .fieldAddr 0 (.t 1), none⟩ ::
⟨some 12, .load none (.t 11), none⟩ ::
⟨some 13, .bin .eql (.t 12) (.c (.int .i64 65535)), none⟩ ::
[])))
(.cond (.t 13)
(.reg (⟨some 14, .mov (.t 3), none⟩ ::
⟨some 15, .bin .add (.t 14) (.c (.int .i64 4)), none⟩ ::
⟨some 3, .mov (.t 15), none⟩ ::
[]))
.skip))
(.seq
(.keep [3]
(.reg (⟨some 16, .mov (.t 3), none⟩ ::
⟨some 2, .mov (.t 16), none⟩ ::
[])))
.ret))))
def rd_oxm_rest : List RD := [.tmp 2 true none]
theorem ok_oxm_rest : fnOk Tryz.prog Tryz.f87 ir_oxm_rest rd_oxm_rest = true := by kernel_rfl
def S_oxm_rest : List AV → List Obj → Option (Prop × AV)
  | [.agg [.int .i64 c, .int .i64 f, .bool h, .int .u64 x, .imm (.int .u8) v, .imm (.int .u8) m]], [] => some ((v.length ≤ 1000000 ∧ m.length ≤ 1000000, .int .i64 (restO c v m)))
  | _, _ => none
theorem snd_oxm_rest : SoundS Tryz.prog 87 (RoF S_oxm_rest).sum := by
  refine ro_fn Tryz.func87 ok_oxm_rest (env_nil _) fun args objs p v e => ?_
  unfold S_oxm_rest at e
  split at e
  · rename_i c f h x v m
    cases e
    refine ⟨rfl, fun hw ho hp => ?_⟩
    change List Int at v
    change List Int at m
    repeat' (intro t ht; first | (cases t <;> first | (cases ht; done) | ((try simp only [Bool.not_eq_eq_eq_not, Bool.not_true, Bool.not_false, Bool.and_eq_true, Bool.and_eq_false_iff, decide_eq_true_eq, decide_eq_false_iff_not] at ht); (try simp only [Int.toNat_natCast, dflt_int] at ht))) | (refine ht ?_ ?_ <;> clear ht) | (refine ht.1 ?_ ?_ <;> clear ht) | (refine ht ?_; clear ht))
    all_goals first
      | ((try simp only [Int.toNat_natCast, dflt_int, decide_eq_true_eq, decide_eq_false_iff_not, Bool.not_eq_eq_eq_not, Bool.not_true, Bool.not_false, Bool.and_eq_true, Bool.and_eq_false_iff, min_i64, max_i64, min_u64, max_u64, min_u32, max_u32, min_u16, max_u16, min_u8, max_u8] at *); omega)
      | (unfold restO; simp_all; done)
      | trace_state
  · cases e
theorem right_len {c f : Int} {h : Bool} {x : Int} {v m : List Int} (hr : rightO c f h x v m = true) : (v.length : Int) ≤ ofSize c f ∧ (h = true → (m.length : Int) = v.length) ∧ (h = false → m.length = 0) ∧ ofOk c f = true ∧ (h = true → ofMask c f = true) ∧ (ofExtra c = true ∨ x = 0) ∧ x.fdiv (2 ^ (min (Int.toNat 32) IntKind.u64.bits)) = 0 ∧ wrongF f h v m (ofBits c f) (ofExtra c) = 0 := by
  unfold rightO at hr
  simp only [Bool.and_eq_true, Bool.or_eq_true, decide_eq_true_eq] at hr
  obtain ⟨⟨⟨⟨⟨⟨a1, a2⟩, a3⟩, a4⟩, a5⟩, a6⟩, a7⟩ := hr
  cases h with
  | true => exact ⟨a6, fun _ => of_decide_eq_true a5, fun h => (by cases h), a1, fun _ => a2.resolve_left (by simp), a3, a4, a7⟩
  | false => exact ⟨a6, fun h => (by cases h), fun _ => of_decide_eq_true a5, a1, fun h => (by cases h), a3, a4, a7⟩
end Go.Eng
