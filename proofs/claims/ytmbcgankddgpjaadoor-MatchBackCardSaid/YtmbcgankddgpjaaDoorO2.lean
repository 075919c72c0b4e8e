/- Contracts of functions of the given program, told by plain Lean functions. No condition. -/
import Derived.Test.YtmbcgankddgpjaaDoorProg
import Derived.Test.YtmbcgankddgpjaaDoorEArg
import Derived.KernelRfl
import Derived.Test.YtmbcgankddgpjaaDoorT1
import Derived.Test.YtmbcgankddgpjaaDoorC1
import Derived.Test.YtmbcgankddgpjaaDoorB1
import Derived.Test.YtmbcgankddgpjaaDoorF4
namespace Go.Eng
open Go.Proofs
set_option linter.unusedVariables false
set_option linter.unusedSimpArgs false
set_option maxRecDepth 100000
set_option maxHeartbeats 1000000
structure Ox where
  c : Int
  f : Int
  has : Bool
  x : Int
  v : List Int
  m : List Int
def ir_oxm_blank : IR :=
(.seq
(.keep [0]
(.reg (oD 2 (.mov cF) ::
[])))
(.seq
(.keep [0]
(.reg (oM 3 0 ::
oD 4 (.call false (.f 116) [(.t 3), (.c (.str [0]))]) ::
oD 5 (.len (.t 4)) ::
oD 6 (.bin .eql (.t 5) (cI 0)) ::
oM 2 6 ::
[])))
.ret))
def rd_oxm_blank : List RD := [.tmp 2 true none]
theorem ok_oxm_blank : fnOk Tryd.prog Tryd.f100 ir_oxm_blank rd_oxm_blank = true := by kernel_rfl
def S_oxm_blank : List AV → List Obj → Option (Prop × AV)
  | [.imm (.int .u8) b], [] => some ((b.length ≤ 140737488355328, .bool (zeroL b)))
  | _, _ => none
theorem snd_oxm_blank : SoundS Tryd.prog 100 (RoF S_oxm_blank).sum := by
  refine ro_fn Tryd.func100 ok_oxm_blank (env_cons (s := RoF S_bytes_Trim) snd_bytes_Trim (env_nil _)) fun args objs p v e => ?_
  unfold S_oxm_blank at e
  split at e
  · rename_i b
    cases e
    refine ⟨rfl, fun hw ho hp => ?_⟩
    change List Int at b
    have h := trim_zero b
    repeat' (intro t ht; first | (cases t <;> first | (cases ht; done) | ((try simp only [bn_s] at ht); (try simp only [nd_s] at ht))) | (refine ht ?_ ?_ <;> clear ht) | (refine ht.1 ?_ ?_ <;> clear ht) | (refine ht ?_; clear ht))
    all_goals first
      | exact hp
      | (refine ⟨?_, rfl⟩; rw [← h]; congr 1; rw [Bool.eq_iff_iff]; simp only [decide_eq_true_eq]; omega)
      | trace_state
  · cases e
def ownA (s : Int) : Int := if 0 < s then (255 : Int).fdiv (2 ^ (min (if 8 < s then 8 else s).toNat 8)) else 255
def onesA : List Int → Int → Bool
  | [], _ => true
  | x :: r, s => if x = ownA s then onesA r (s - 8) else false
def onesF (b : List Int) (bits : Int) : Bool := onesA b (b.length * 8 - bits)
def ir_oxm_ones : IR :=
(.seq
(.keep [0, 1]
(.reg (oD 4 (.mov cF) ::
[])))
(.seq
(.reg (oM 10 0 ::
oD 11 (.len (.t 10)) ::
oD 12 (.bin .mul (.t 11) (cI 8)) ::
oM 5 12 ::
[]))
(.seq
(.seq
(.reg (oM 13 0 ::
oD 14 (.len (.t 13)) ::
oD 15 (.mov (cI 0)) ::
[]))
(.block 0
(.loop
(.seq
(.keep [1, 5, 13, 14, 15]
(.reg (oD 16 (.bin .lss (.t 15) (.t 14)) ::
[])))
(.seq
(.cond (.t 16)
.skip
(.exit 0))
(.seq
(.block 1
(.seq
(.keep [1, 5, 13, 14, 15]
(.reg (oM 17 15 ::
oD 18 (.indexSl 1 (.t 13) (.t 15)) ::
oL 19 18 ::
oM 6 17 ::
oM 7 19 ::
[])))
(.seq
(.reg (oD 8 (.mov (.c (.int .u8 255))) ::
[]))
(.seq
(.seq
(.keep [1, 5, 6, 7, 8, 13, 14, 15]
(.reg (oM 20 5 ::
oM 21 6 ::
oD 22 (.bin .mul (.t 21) (cI 8)) ::
oD 23 (.bin .sub (.t 20) (.t 22)) ::
oM 24 1 ::
oD 25 (.bin .sub (.t 23) (.t 24)) ::
oM 9 25 ::
[])))
(.seq
(.keep [1, 5, 7, 8, 9, 13, 14, 15]
(.reg (oM 26 9 ::
oD 27 (.bin .gtr (.t 26) (cI 0)) ::
[])))
(.cond (.t 27)
(.keep [1, 5, 7, 8, 9, 13, 14, 15]
(.reg (oM 28 8 ::
oM 29 9 ::
oD 30 (.minmax false (.t 29) (cI 8)) ::
oD 31 (.bin .shr (.t 28) (.t 30)) ::
oM 8 31 ::
[])))
.skip)))
(.seq
(.reg (oM 32 7 ::
oM 33 8 ::
oD 34 (.bin .neq (.t 32) (.t 33)) ::
[]))
(.cond (.t 34)
(.seq
(.keep []
(.reg (oD 4 (.mov cF) ::
[])))
.ret)
.skip))))))
(.keep [1, 5, 13, 14, 15]
(.reg (oD 35 (.bin .add (.t 15) (cI 1)) ::
oM 15 35 ::
[])))))))))
(.seq
(.keep []
(.reg (oD 4 (.mov cT) ::
[])))
.ret))))
def rd_oxm_ones : List RD := [.tmp 4 true none]
theorem ok_oxm_ones : fnOk Tryd.prog Tryd.f101 ir_oxm_ones rd_oxm_ones = true := by kernel_rfl
def S_oxm_ones : List AV → List Obj → Option (Prop × AV)
  | [.imm (.int .u8) b, .int .i64 n], [] => some ((0 ≤ n ∧ n ≤ 1000000 ∧ b.length ≤ 1000000, .bool (onesF b n)))
  | _, _ => none
theorem snd_oxm_ones : SoundS Tryd.prog 101 (RoF S_oxm_ones).sum := by
  refine ro_fn Tryd.func101 ok_oxm_ones (env_nil _) fun args objs p v e => ?_
  unfold S_oxm_ones at e
  split at e
  · rename_i b n
    cases e
    refine ⟨rfl, fun hw ho hp => ?_⟩
    change List Int at b
    repeat' (intro t ht; first | (cases t <;> first | (cases ht; done) | ((try simp only [bn_s] at ht); (try simp only [nd_s] at ht))) | (refine ht ?_ ?_ <;> clear ht) | (refine ht.1 ?_ ?_ <;> clear ht) | (refine ht ?_; clear ht))
    all_goals first
      | ((try simp only [nd_s, bn_s, mm_s] at *); omega)
      | (intro r h1 h2; clear h1; refine h2 ⟨[1, 5, 13, 14, 15], Nat, (fun i => i ≤ b.length ∧ onesF b n = onesA (b.drop i) (b.length * 8 - i * 8 - n)), fun i => [.int .i64 n, .int .i64 (b.length * 8), .imm (.int .u8) b, .int .i64 b.length, .int .i64 i], fun _ => [], fun i => b.length - i, ⟨0, ⟨Nat.zero_le _, by unfold onesF; simp⟩, rfl, rfl⟩, ?_⟩; clear h2)
    rintro i ⟨hi, he⟩
    repeat' (intro t ht; first | (cases t <;> first | (cases ht; done) | ((try simp only [bn_s] at ht); (try simp only [nd_s] at ht))) | (refine ht ?_ ?_ <;> clear ht) | (refine ht.1 ?_ ?_ <;> clear ht) | (refine ht ?_; clear ht))
    all_goals first
      | ((try simp only [nd_s, bn_s, mm_s] at *); omega)
      | (have h0 : b.drop i = [] := List.drop_of_length_le (by omega)
         refine ⟨?_, rfl⟩; rw [he, h0]; rfl)
      | ((try simp only [nd_s, bn_s, mm_s] at *); split <;> omega)
      | (have hlt : i < b.length := by omega
         rw [drop_step hlt 0] at he
         first
           | (have hn : ¬ 0 < (b.length : Int) * 8 - i * 8 - n := by assumption
              have ho : ownA ((b.length : Int) * 8 - i * 8 - n) = 255 := if_neg hn
              first
                | (have hx : b.getD i 0 = 255 := by assumption
                   have h1 : onesA (b.getD i 0 :: b.drop (i + 1)) ((b.length : Int) * 8 - i * 8 - n) = onesA (b.drop (i + 1)) ((b.length : Int) * 8 - i * 8 - n - 8) := if_pos (hx.trans ho.symm)
                   refine ⟨i + 1, ⟨hlt, ?_⟩, by dsimp only; omega, rfl, rfl⟩
                   rw [he, h1]; congr 1; omega)
                | (have hx : ¬ b.getD i 0 = 255 := by assumption
                   have h1 : onesA (b.getD i 0 :: b.drop (i + 1)) ((b.length : Int) * 8 - i * 8 - n) = false := if_neg (fun e => hx (e.trans ho))
                   refine ⟨?_, rfl⟩; rw [he, h1]))
           | (have hn : 0 < (b.length : Int) * 8 - i * 8 - n := by assumption
              have ho : ownA ((b.length : Int) * 8 - i * 8 - n) = (255 : Int).fdiv (2 ^ (min (if 8 < (b.length : Int) * 8 - i * 8 - n then 8 else (b.length : Int) * 8 - i * 8 - n).toNat 8)) := if_pos hn
              first
                | (have hx : b.getD i 0 = (255 : Int).fdiv (2 ^ (min (if 8 < (b.length : Int) * 8 - i * 8 - n then 8 else (b.length : Int) * 8 - i * 8 - n).toNat 8)) := by assumption
                   have h1 : onesA (b.getD i 0 :: b.drop (i + 1)) ((b.length : Int) * 8 - i * 8 - n) = onesA (b.drop (i + 1)) ((b.length : Int) * 8 - i * 8 - n - 8) := if_pos (hx.trans ho.symm)
                   refine ⟨i + 1, ⟨hlt, ?_⟩, by dsimp only; omega, rfl, rfl⟩
                   rw [he, h1]; congr 1; omega)
                | (have hx : ¬ b.getD i 0 = (255 : Int).fdiv (2 ^ (min (if 8 < (b.length : Int) * 8 - i * 8 - n then 8 else (b.length : Int) * 8 - i * 8 - n).toNat 8)) := by assumption
                   have h1 : onesA (b.getD i 0 :: b.drop (i + 1)) ((b.length : Int) * 8 - i * 8 - n) = false := if_neg (fun e => hx (e.trans ho))
                   refine ⟨?_, rfl⟩; rw [he, h1])))
      | trace_state
  · cases e
def outA : List Int → List Int → Bool
  | x :: r, y :: l => if bitop .andNot .u8 x y = 0 then outA r l else true
  | _, _ => false
def ir_oxm_outside : IR :=
(.seq
(.keep [0, 1]
(.reg (oD 4 (.mov cF) ::
[])))
(.seq
(.seq
(.reg (oM 7 0 ::
oD 8 (.len (.t 7)) ::
oD 9 (.mov (cI 0)) ::
[]))
(.block 0
(.loop
(.seq
(.keep [1, 7, 8, 9]
(.reg (oD 10 (.bin .lss (.t 9) (.t 8)) ::
[])))
(.seq
(.cond (.t 10)
.skip
(.exit 0))
(.seq
(.block 1
(.seq
(.keep [1, 7, 8, 9]
(.reg (oM 11 9 ::
oD 12 (.indexSl 1 (.t 7) (.t 9)) ::
oL 13 12 ::
oM 5 11 ::
oM 6 13 ::
[])))
(.seq
(.keep [1, 5, 6, 7, 8, 9]
(.reg (oM 14 6 ::
oM 15 1 ::
oM 16 5 ::
oD 17 (.indexSl 1 (.t 15) (.t 16)) ::
oL 18 17 ::
oD 19 (.bin .andNot (.t 14) (.t 18)) ::
oD 20 (.bin .neq (.t 19) (.c (.int .u8 0))) ::
[])))
(.cond (.t 20)
(.seq
(.keep []
(.reg (oD 4 (.mov cT) ::
[])))
.ret)
.skip))))
(.keep [1, 7, 8, 9]
(.reg (oD 21 (.bin .add (.t 9) (cI 1)) ::
oM 9 21 ::
[])))))))))
(.seq
(.keep []
(.reg (oD 4 (.mov cF) ::
[])))
.ret)))
def rd_oxm_outside : List RD := [.tmp 4 true none]
theorem ok_oxm_outside : fnOk Tryd.prog Tryd.f102 ir_oxm_outside rd_oxm_outside = true := by kernel_rfl
def S_oxm_outside : List AV → List Obj → Option (Prop × AV)
  | [.imm (.int .u8) v, .imm (.int .u8) m], [] => some ((v.length ≤ m.length, .bool (outA v m)))
  | _, _ => none
theorem snd_oxm_outside : SoundS Tryd.prog 102 (RoF S_oxm_outside).sum := by
  refine ro_fn Tryd.func102 ok_oxm_outside (env_nil _) fun args objs p v e => ?_
  unfold S_oxm_outside at e
  split at e
  · rename_i v m
    cases e
    refine ⟨rfl, fun hw ho hp => ?_⟩
    change List Int at v
    change List Int at m
    have hl : m.length ≤ maxLen := (hw (.imm (.int .u8) m) (by simp)).2
    unfold maxLen at hl
    repeat' (intro t ht; first | (cases t <;> first | (cases ht; done) | ((try simp only [bn_s] at ht); (try simp only [nd_s] at ht))) | (refine ht ?_ ?_ <;> clear ht) | (refine ht.1 ?_ ?_ <;> clear ht) | (refine ht ?_; clear ht))
    all_goals first
      | (intro r h1 h2; clear h1; refine h2 ⟨[1, 7, 8, 9], Nat, (fun i => i ≤ v.length ∧ outA v m = outA (v.drop i) (m.drop i)), fun i => [.imm (.int .u8) m, .imm (.int .u8) v, .int .i64 v.length, .int .i64 i], fun _ => [], fun i => v.length - i, ⟨0, ⟨Nat.zero_le _, rfl⟩, rfl, rfl⟩, ?_⟩; clear h2)
    rintro i ⟨hi, he⟩
    repeat' (intro t ht; first | (cases t <;> first | (cases ht; done) | ((try simp only [bn_s] at ht); (try simp only [nd_s] at ht))) | (refine ht ?_ ?_ <;> clear ht) | (refine ht.1 ?_ ?_ <;> clear ht) | (refine ht ?_; clear ht))
    all_goals first
      | ((try simp only [nd_s, bn_s, mm_s] at *); omega)
      | (have h0 : v.drop i = [] := List.drop_of_length_le (by omega)
         refine ⟨?_, rfl⟩; rw [he, h0]; rfl)
      | (have hlt : i < v.length := by omega
         have hlm : i < m.length := by omega
         rw [drop_step hlt 0, drop_step hlm 0] at he
         first
           | (have hx : bitop .andNot .u8 (v.getD i 0) (m.getD i 0) = 0 := by assumption
              have h1 : outA (v.getD i 0 :: v.drop (i + 1)) (m.getD i 0 :: m.drop (i + 1)) = outA (v.drop (i + 1)) (m.drop (i + 1)) := if_pos hx
              exact ⟨i + 1, ⟨hlt, by rw [he, h1]⟩, by dsimp only; omega, rfl, rfl⟩)
           | (have hx : ¬ bitop .andNot .u8 (v.getD i 0) (m.getD i 0) = 0 := by assumption
              have h1 : outA (v.getD i 0 :: v.drop (i + 1)) (m.getD i 0 :: m.drop (i + 1)) = true := if_neg hx
              refine ⟨?_, rfl⟩; rw [he, h1]))
      | trace_state
  · cases e
def inA : List Int → List Int → Bool
  | x :: r, y :: l => if bitop .and .u8 x y = x then inA r l else false
  | _, _ => true
def refO (b : List Int) : Nat → Int → Bool
  | 0, _ => true
  | f + 1, i => if bitop .and .u8 ((b.getD (b.length - 1 - i.tdiv 8 : Int).toNat 0).fdiv (2 ^ (min (i.tmod 8).toNat 8))) 1 = 0 then false else refO b f (i + 1)
theorem refO_f {b : List Int} {f : Nat} {i : Int} (h : bitop .and .u8 ((b.getD (b.length - 1 - i.tdiv 8 : Int).toNat 0).fdiv (2 ^ (min (i.tmod 8).toNat 8))) 1 = 0) : refO b (f + 1) i = false := if_pos h
theorem refO_t {b : List Int} {f : Nat} {i : Int} (h : ¬ bitop .and .u8 ((b.getD (b.length - 1 - i.tdiv 8 : Int).toNat 0).fdiv (2 ^ (min (i.tmod 8).toNat 8))) 1 = 0) : refO b (f + 1) i = refO b f (i + 1) := if_neg h
def ofOk (c f : Int) : Bool := if c = 65535 then decide (0 ≤ f) && decide (f ≤ 127) else fIs f && decide (c = 32768)
def ofSize (c f : Int) : Int := if c = 65535 then 100 else fSize f
def ofBits (c f : Int) : Int := if c = 65535 then 0 else fBits f
def ofMask (c f : Int) : Bool := if c = 65535 then true else fMask f
def ofExtra (c : Int) : Bool := decide (c = 65535)
theorem fK : ∀ k < 40, 0 ≤ fSize (k : Nat) ∧ fSize (k : Nat) ≤ 16 ∧ 0 ≤ fBits (k : Nat) ∧ fBits (k : Nat) ≤ 128 := by decide +kernel
theorem f_le (f : Int) : 0 ≤ fSize f ∧ fSize f ≤ 16 ∧ 0 ≤ fBits f ∧ fBits f ≤ 128 := by
  cases h : fIs f with
  | true =>
    have hn := fIs_t.1 h
    have := fK f.toNat (by omega)
    rwa [Int.toNat_of_nonneg hn.1] at this
  | false => unfold fSize fBits; rw [h]; simp
theorem of_le (c f : Int) : 0 ≤ ofSize c f ∧ ofSize c f ≤ 100 ∧ 0 ≤ ofBits c f ∧ ofBits c f ≤ 128 := by
  have := f_le f
  unfold ofSize ofBits; split <;> omega
def ir_oxm_of : IR :=
(.seq
(.keep [0]
(.reg (oD 1 (.boxv (.t 0)) ::
oD 2 (.box [.int .i64 0, .int .i64 0, .kb false, .kb false]) ::
oD 3 (.mov cF) ::
[])))
(.seq
(.seq
(.reg (oD 6 (.fieldAddr 0 (.t 1)) ::
oL 7 6 ::
oD 8 (.bin .eql (.t 7) (cI 65535)) ::
[]))
(.cond (.t 8)
(.seq
(.keep [1, 2]
(.regD ((oD 9 (.build [.int .i64 0, .int .i64 0, .kb false, .kb false] [(0, 1, (cI 100)), (2, 1, cT), (3, 1, cT)]), []) ::
(oD 10 (.fieldAddr 1 (.t 1)), [0]) ::
(oL 11 10, [1]) ::
(oD 12 (.bin .geq (.t 11) (cI 0)), [2]) ::
(oM 13 12, [3]) ::
(oT 13 14 (.fieldAddr 1 (.t 1)), [4]) ::
(oT 13 15 (.load none (.t 14)), [5]) ::
(oT 13 16 (.bin .leq (.t 15) (cI 127)), [6]) ::
(oD 17 (.pick (.t 13) (.t 16) cF), [7]) ::
(oN (.store 4 (.t 2) (.t 9)), [0, 0, 0, 0]) ::
(oM 3 17, []) ::
[])))
.ret)
.skip))
(.seq
(.keep [1, 2]
(.reg (oD 19 (.fieldAddr 1 (.t 1)) ::
oL 20 19 ::
oD 21 (.call false (.f 98) [(.t 20)]) ::
oM 18 21 ::
oD 22 (.extract (.t 18) 0) ::
oD 23 (.extract (.t 18) 1) ::
oD 4 (.box [.int .i64 0, .int .i64 0, .kb false, .int .i64 0, .imm (.int .u64) []]) ::
oN (.store 5 (.t 4) (.t 22)) ::
oM 5 23 ::
[])))
(.seq
(.keep [1, 2, 4, 5]
(.regD ((oD 24 (.fieldAddr 1 (.t 4)), []) ::
(oL 25 24, []) ::
(oD 26 (.fieldAddr 0 (.t 4)), [0, 0]) ::
(oL 27 26, [1, 0]) ::
(oD 28 (.fieldAddr 2 (.t 4)), [0, 0, 0, 0]) ::
(oL 29 28, [1, 0, 0, 0]) ::
(oD 30 (.build [.int .i64 0, .int .i64 0, .kb false, .kb false] [(0, 1, (.t 25)), (1, 1, (.t 27)), (2, 1, (.t 29))]), []) ::
(oM 31 5, [0, 0, 0, 0, 0, 0, 0]) ::
(oM 32 31, [1, 0, 0, 0, 0, 0, 0]) ::
(oT 32 33 (.fieldAddr 0 (.t 1)), [2, 0, 0, 0, 0, 0, 0]) ::
(oT 32 34 (.load none (.t 33)), [3, 0, 0, 0, 0, 0, 0]) ::
(oT 32 35 (.bin .eql (.t 34) (cI 32768)), [4, 0, 0, 0, 0, 0, 0]) ::
(oD 36 (.pick (.t 32) (.t 35) cF), [5, 0, 0, 0, 0, 0, 0]) ::
(oN (.store 4 (.t 2) (.t 30)), [0, 0, 0, 0]) ::
(oM 3 36, []) ::
[])))
.ret))))
def rd_oxm_of : List RD := [.cell 2 (some 4) true [], .tmp 3 true none]
theorem ok_oxm_of : fnOk Tryd.prog Tryd.f76 ir_oxm_of rd_oxm_of = true := by kernel_rfl
def S_oxm_of : List AV → List Obj → Option (Prop × AV)
  | [.agg [.int .i64 c, .int .i64 f, .bool h, .int .u64 x, .imm (.int .u8) v, .imm (.int .u8) m]], [] => some ((True, .tup [.agg [.int .i64 (ofSize c f), .int .i64 (ofBits c f), .bool (ofMask c f), .bool (ofExtra c)], .bool (ofOk c f)]))
  | _, _ => none
theorem snd_oxm_of : SoundS Tryd.prog 76 (RoF S_oxm_of).sum := by
  refine ro_fn Tryd.func76 ok_oxm_of (env_cons (s := RoF S_field_Of) snd_field_Of (env_nil _)) fun args objs p v e => ?_
  unfold S_oxm_of at e
  split at e
  · rename_i c f h x v m
    cases e
    refine ⟨rfl, fun hw ho hp => ?_⟩
    change List Int at v
    change List Int at m
    repeat' (intro t ht; first | (cases t <;> first | (cases ht; done) | ((try simp only [bn_s] at ht); (try simp only [nd_s] at ht))) | (refine ht ?_ ?_ <;> clear ht) | (refine ht.1 ?_ ?_ <;> clear ht) | (refine ht ?_; clear ht))
    all_goals first
      | exact True.intro
      | (simp_all [ofOk, ofSize, ofBits, ofMask, ofExtra]; done)
      | (simp_all [ofOk, ofSize, ofBits, ofMask, ofExtra]; omega)
      | trace_state
  · cases e
def wrongF (f : Int) (h : Bool) (v m : List Int) (bits : Int) (ex : Bool) : Int :=
  if ex = false ∧ fitsF f v = false then 1032 else if h = true ∧ ex = false ∧ fitsF f m = false then 1033
  else if h = true ∧ (zeroL m = true ∨ onesF m (if ex = true then m.length * 8 else bits) = true) then 1033 else if h = true ∧ outA v m = true then 1030 else 0
def ir_oxm_wrong : IR :=
(.seq
(.keep [0, 1]
(.reg (oD 2 (.boxv (.t 0)) ::
oD 3 (.boxv (.t 1)) ::
oD 4 (.mov (cI 0)) ::
[])))
(.seq
(.seq
(.reg (oD 5 (.fieldAddr 3 (.t 3)) ::
oL 6 5 ::
[]))
(.cond (.t 6)
(.keep [2, 3]
(.reg (oD 7 (.fieldAddr 5 (.t 2)) ::
oL 8 7 ::
oD 9 (.len (.t 8)) ::
oD 10 (.bin .mul (.t 9) (cI 8)) ::
oD 11 (.fieldAddr 1 (.t 3)) ::
oN (.store 1 (.t 11) (.t 10)) ::
[])))
.skip))
(.seq
(.block 0
(.seq
(.block 3
(.block 2
(.seq
(.block 1
(.seq
(.seq
(.seq
(.keep [2, 3]
(.reg (oD 13 (.fieldAddr 3 (.t 3)) ::
oL 14 13 ::
oD 15 (.un .not (.t 14)) ::
oM 16 15 ::
oT 16 17 (.fieldAddr 1 (.t 2)) ::
oT 16 18 (.load none (.t 17)) ::
oT 16 19 (.fieldAddr 4 (.t 2)) ::
oT 16 20 (.load none (.t 19)) ::
oT 16 21 (.call false (.f 99) [(.t 18), (.t 20)]) ::
oT 16 22 (.un .not (.t 21)) ::
oD 23 (.pick (.t 16) (.t 22) cF) ::
oM 12 23 ::
[])))
(.cond (.t 12)
(.exit 1)
.skip))
(.seq
(.seq
(.keep [2, 3]
(.reg (oD 25 (.fieldAddr 2 (.t 2)) ::
oL 26 25 ::
oM 27 26 ::
oT 27 28 (.fieldAddr 3 (.t 3)) ::
oT 27 29 (.load none (.t 28)) ::
oT 27 30 (.un .not (.t 29)) ::
oD 31 (.pick (.t 27) (.t 30) cF) ::
oM 32 31 ::
oT 32 33 (.fieldAddr 1 (.t 2)) ::
oT 32 34 (.load none (.t 33)) ::
oT 32 35 (.fieldAddr 5 (.t 2)) ::
oT 32 36 (.load none (.t 35)) ::
oT 32 37 (.call false (.f 99) [(.t 34), (.t 36)]) ::
oT 32 38 (.un .not (.t 37)) ::
oD 39 (.pick (.t 32) (.t 38) cF) ::
oM 24 39 ::
[])))
(.cond (.t 24)
(.exit 2)
.skip))
(.seq
(.keep [2, 3]
(.reg (oD 41 (.fieldAddr 2 (.t 2)) ::
oL 42 41 ::
oM 43 42 ::
oT 43 44 (.fieldAddr 5 (.t 2)) ::
oT 43 45 (.load none (.t 44)) ::
oT 43 46 (.call false (.f 100) [(.t 45)]) ::
oT 43 47 (.mov (.t 46)) ::
oF 47 48 (.fieldAddr 5 (.t 2)) ::
oF 47 49 (.load none (.t 48)) ::
oF 47 50 (.fieldAddr 1 (.t 3)) ::
oF 47 51 (.load none (.t 50)) ::
oF 47 52 (.call false (.f 101) [(.t 49), (.t 51)]) ::
oT 43 53 (.pick (.t 47) cT (.t 52)) ::
oD 54 (.pick (.t 43) (.t 53) cF) ::
oM 40 54 ::
[])))
(.cond (.t 40)
(.exit 3)
.skip))))
(.exit 0)))
(.seq
(.seq
(.keep []
(.reg (oD 4 (.mov (cI 1032)) ::
[])))
.ret)
(.exit 0)))))
(.seq
(.seq
(.keep []
(.reg (oD 4 (.mov (cI 1033)) ::
[])))
.ret)
(.exit 0))))
(.seq
(.seq
(.keep [2]
(.reg (oD 55 (.fieldAddr 2 (.t 2)) ::
oL 56 55 ::
oM 57 56 ::
oT 57 58 (.fieldAddr 4 (.t 2)) ::
oT 57 59 (.load none (.t 58)) ::
oT 57 60 (.fieldAddr 5 (.t 2)) ::
oT 57 61 (.load none (.t 60)) ::
oT 57 62 (.call false (.f 102) [(.t 59), (.t 61)]) ::
oD 63 (.pick (.t 57) (.t 62) cF) ::
[])))
(.cond (.t 63)
(.seq
(.keep []
(.reg (oD 4 (.mov (cI 1030)) ::
[])))
.ret)
.skip))
(.seq
(.keep []
(.reg (oD 4 (.mov (cI 0)) ::
[])))
.ret)))))
def rd_oxm_wrong : List RD := [.tmp 4 true none]
theorem ok_oxm_wrong : fnOk Tryd.prog Tryd.f77 ir_oxm_wrong rd_oxm_wrong = true := by kernel_rfl
def S_oxm_wrong : List AV → List Obj → Option (Prop × AV)
  | [.agg [.int .i64 c, .int .i64 f, .bool h, .int .u64 x, .imm (.int .u8) v, .imm (.int .u8) m], .agg [.int .i64 sz, .int .i64 bits, .bool mk, .bool ex]], [] => some (((h = true → v.length ≤ m.length) ∧ m.length ≤ 100000 ∧ 0 ≤ bits ∧ bits ≤ 1000000, .int .i64 (wrongF f h v m bits ex)))
  | _, _ => none
theorem snd_oxm_wrong : SoundS Tryd.prog 77 (RoF S_oxm_wrong).sum := by
  refine ro_fn Tryd.func77 ok_oxm_wrong (env_cons (s := RoF S_field_Fits) snd_field_Fits (env_cons (s := RoF S_oxm_blank) snd_oxm_blank (env_cons (s := RoF S_oxm_ones) snd_oxm_ones (env_cons (s := RoF S_oxm_outside) snd_oxm_outside (env_nil _))))) fun args objs p v e => ?_
  unfold S_oxm_wrong at e
  split at e
  · rename_i c f h x v m sz bits mk ex
    cases e
    refine ⟨rfl, fun hw ho hp => ?_⟩
    change List Int at v
    change List Int at m
    cases h <;> cases ex
    all_goals repeat' (intro t ht; first | (cases t <;> first | (cases ht; done) | ((try simp only [bn_s] at ht); (try simp only [nd_s] at ht))) | (refine ht ?_ ?_ <;> clear ht) | (refine ht.1 ?_ ?_ <;> clear ht) | (refine ht ?_; clear ht))
    all_goals first
      | exact True.intro
      | exact hp.1 rfl
      | ((try simp only [nd_s, bn_s, mm_s] at *); omega)
      | (unfold wrongF; simp_all; done)
      | trace_state
  · cases e
def restO (c : Int) (v m : List Int) : Int := if c = 65535 then (v.length : Int) + m.length + 4 else (v.length : Int) + m.length
def rightO (c f : Int) (h : Bool) (x : Int) (v m : List Int) : Bool :=
  ofOk c f && (!h || ofMask c f) && (ofExtra c || decide (x = 0)) && decide (x.fdiv (2 ^ (min (Int.toNat 32) IntKind.u64.bits)) = 0) &&
    (match h with | true => decide ((m.length : Int) = v.length) | false => decide (m.length = 0)) && decide ((v.length : Int) ≤ ofSize c f) && decide (wrongF f h v m (ofBits c f) (ofExtra c) = 0)
def ir_oxm_Right : IR :=
(.seq
(.keep [0]
(.reg (oD 1 (.boxv (.t 0)) ::
oD 2 (.mov cF) ::
[])))
(.seq
(.keep [1]
(.reg (oD 6 (.load (some 6) (.t 1)) ::
oD 7 (.call false (.f 76) [(.t 6)]) ::
oM 5 7 ::
oD 8 (.extract (.t 5) 0) ::
oD 9 (.extract (.t 5) 1) ::
oD 3 (.box [.int .i64 0, .int .i64 0, .kb false, .kb false]) ::
oN (.store 4 (.t 3) (.t 8)) ::
oM 4 9 ::
[])))
(.seq
(.block 0
(.seq
(.block 4
(.seq
(.block 3
(.block 2
(.seq
(.block 1
(.seq
(.seq
(.seq
(.keep [1, 3, 4]
(.reg (oM 11 4 ::
oD 12 (.un .not (.t 11)) ::
oM 13 12 ::
oF 13 14 (.fieldAddr 2 (.t 1)) ::
oF 13 15 (.load none (.t 14)) ::
oF 13 16 (.mov (.t 15)) ::
oT 16 17 (.fieldAddr 2 (.t 3)) ::
oT 16 18 (.load none (.t 17)) ::
oT 16 19 (.un .not (.t 18)) ::
oF 13 20 (.pick (.t 16) (.t 19) cF) ::
oD 21 (.pick (.t 13) cT (.t 20)) ::
oM 10 21 ::
[])))
(.cond (.t 10)
(.exit 1)
.skip))
(.seq
(.seq
(.keep [1, 3]
(.reg (oD 23 (.fieldAddr 3 (.t 3)) ::
oL 24 23 ::
oD 25 (.un .not (.t 24)) ::
oM 26 25 ::
oT 26 27 (.fieldAddr 3 (.t 1)) ::
oT 26 28 (.load none (.t 27)) ::
oT 26 29 (.bin .neq (.t 28) (.c (.int .u64 0))) ::
oD 30 (.pick (.t 26) (.t 29) cF) ::
oM 22 30 ::
[])))
(.cond (.t 22)
(.exit 2)
.skip))
(.seq
(.seq
(.keep [1, 3]
(.reg (oD 32 (.fieldAddr 3 (.t 1)) ::
oL 33 32 ::
oD 34 (.bin .shr (.t 33) (.c (.int .u64 32))) ::
oD 35 (.bin .neq (.t 34) (.c (.int .u64 0))) ::
oM 31 35 ::
[])))
(.cond (.t 31)
(.exit 3)
.skip))
(.seq
(.keep [1, 3]
(.reg (oD 37 (.fieldAddr 2 (.t 1)) ::
oL 38 37 ::
oM 39 38 ::
oT 39 40 (.fieldAddr 5 (.t 1)) ::
oT 39 41 (.load none (.t 40)) ::
oT 39 42 (.len (.t 41)) ::
oT 39 43 (.fieldAddr 4 (.t 1)) ::
oT 39 44 (.load none (.t 43)) ::
oT 39 45 (.len (.t 44)) ::
oT 39 46 (.bin .neq (.t 42) (.t 45)) ::
oD 47 (.pick (.t 39) (.t 46) cF) ::
oM 48 47 ::
oF 48 49 (.fieldAddr 2 (.t 1)) ::
oF 48 50 (.load none (.t 49)) ::
oF 48 51 (.un .not (.t 50)) ::
oF 48 52 (.mov (.t 51)) ::
oT 52 53 (.fieldAddr 5 (.t 1)) ::
oT 52 54 (.load none (.t 53)) ::
oT 52 55 (.len (.t 54)) ::
oT 52 56 (.bin .gtr (.t 55) (cI 0)) ::
oF 48 57 (.pick (.t 52) (.t 56) cF) ::
oD 58 (.pick (.t 48) cT (.t 57)) ::
oM 59 58 ::
oF 59 60 (.fieldAddr 4 (.t 1)) ::
oF 59 61 (.load none (.t 60)) ::
oF 59 62 (.len (.t 61)) ::
oF 59 63 (.fieldAddr 0 (.t 3)) ::
oF 59 64 (.load none (.t 63)) ::
oF 59 65 (.bin .gtr (.t 62) (.t 64)) ::
oD 66 (.pick (.t 59) cT (.t 65)) ::
oM 36 66 ::
[])))
(.cond (.t 36)
(.exit 4)
.skip)))))
(.exit 0)))
(.seq
(.seq
(.keep []
(.reg (oD 2 (.mov cF) ::
[])))
.ret)
(.exit 0)))))
(.seq
(.seq
(.keep []
(.reg (oD 2 (.mov cF) ::
[])))
.ret)
(.exit 0))))
(.seq
(.seq
(.keep []
(.reg (oD 2 (.mov cF) ::
[])))
.ret)
(.exit 0))))
(.seq
(.keep [1, 3]
(.reg (oD 67 (.load (some 6) (.t 1)) ::
oD 68 (.load (some 4) (.t 3)) ::
oD 69 (.call false (.f 77) [(.t 67), (.t 68)]) ::
oD 70 (.bin .eql (.t 69) (cI 0)) ::
oM 2 70 ::
[])))
.ret))))
def rd_oxm_Right : List RD := [.tmp 2 true none]
theorem ok_oxm_Right : fnOk Tryd.prog Tryd.f52 ir_oxm_Right rd_oxm_Right = true := by kernel_rfl
def S_oxm_Right : List AV → List Obj → Option (Prop × AV)
  | [.agg [.int .i64 c, .int .i64 f, .bool h, .int .u64 x, .imm (.int .u8) v, .imm (.int .u8) m]], [] => some ((v.length ≤ 1000000 ∧ m.length ≤ 1000000, .bool (rightO c f h x v m)))
  | _, _ => none
theorem snd_oxm_Right : SoundS Tryd.prog 52 (RoF S_oxm_Right).sum := by
  refine ro_fn Tryd.func52 ok_oxm_Right (env_cons (s := RoF S_oxm_of) snd_oxm_of (env_cons (s := RoF S_oxm_wrong) snd_oxm_wrong (env_nil _))) fun args objs p v e => ?_
  unfold S_oxm_Right at e
  split at e
  · rename_i c f h x v m
    cases e
    refine ⟨rfl, fun hw ho hp => ?_⟩
    change List Int at v
    change List Int at m
    have hof := of_le c f
    cases h
    all_goals repeat' (intro t ht; first | (cases t <;> first | (cases ht; done) | ((try simp only [bn_s] at ht); (try simp only [nd_s] at ht))) | (refine ht ?_ ?_ <;> clear ht) | (refine ht.1 ?_ ?_ <;> clear ht) | (refine ht ?_; clear ht))
    all_goals first
      | exact True.intro
      | exact (by decide)
      | (refine ⟨fun h => ?_, ?_, ?_, ?_⟩ <;> first | omega | (cases h; done))
      | (unfold rightO; simp_all; done)
      | (have h0 : ¬ m.length = 0 := by omega
         unfold rightO; simp_all; done)
      | (unfold rightO; simp_all; omega)
      | trace_state
  · cases e
def ir_oxm_rest : IR :=
(.seq
(.keep [0]
(.reg (oD 1 (.boxv (.t 0)) ::
oD 2 (.mov (cI 0)) ::
[])))
(.seq
(.keep [1]
(.reg (oD 4 (.fieldAddr 4 (.t 1)) ::
oL 5 4 ::
oD 6 (.len (.t 5)) ::
oD 7 (.fieldAddr 5 (.t 1)) ::
oL 8 7 ::
oD 9 (.len (.t 8)) ::
oD 10 (.bin .add (.t 6) (.t 9)) ::
oM 3 10 ::
[])))
(.seq
(.seq
(.keep [1, 3]
(.reg (oD 11 (.fieldAddr 0 (.t 1)) ::
oL 12 11 ::
oD 13 (.bin .eql (.t 12) (cI 65535)) ::
[])))
(.cond (.t 13)
(.reg (oM 14 3 ::
oD 15 (.bin .add (.t 14) (cI 4)) ::
oM 3 15 ::
[]))
.skip))
(.seq
(.keep [3]
(.reg (oM 16 3 ::
oM 2 16 ::
[])))
.ret))))
def rd_oxm_rest : List RD := [.tmp 2 true none]
theorem ok_oxm_rest : fnOk Tryd.prog Tryd.f90 ir_oxm_rest rd_oxm_rest = true := by kernel_rfl
def S_oxm_rest : List AV → List Obj → Option (Prop × AV)
  | [.agg [.int .i64 c, .int .i64 f, .bool h, .int .u64 x, .imm (.int .u8) v, .imm (.int .u8) m]], [] => some ((v.length ≤ 1000000 ∧ m.length ≤ 1000000, .int .i64 (restO c v m)))
  | _, _ => none
theorem snd_oxm_rest : SoundS Tryd.prog 90 (RoF S_oxm_rest).sum := by
  refine ro_fn Tryd.func90 ok_oxm_rest (env_nil _) fun args objs p v e => ?_
  unfold S_oxm_rest at e
  split at e
  · rename_i c f h x v m
    cases e
    refine ⟨rfl, fun hw ho hp => ?_⟩
    change List Int at v
    change List Int at m
    repeat' (intro t ht; first | (cases t <;> first | (cases ht; done) | ((try simp only [bn_s] at ht); (try simp only [nd_s] at ht))) | (refine ht ?_ ?_ <;> clear ht) | (refine ht.1 ?_ ?_ <;> clear ht) | (refine ht ?_; clear ht))
    all_goals first
      | ((try simp only [nd_s, bn_s, mm_s] at *); omega)
      | (unfold restO; simp_all; done)
      | trace_state
  · cases e
theorem right_len {c f : Int} {h : Bool} {x : Int} {v m : List Int} (hr : rightO c f h x v m = true) : (v.length : Int) ≤ ofSize c f ∧ (h = true → (m.length : Int) = v.length) ∧ (h = false → m.length = 0) ∧ ofOk c f = true ∧ (h = true → ofMask c f = true) ∧ (ofExtra c = true ∨ x = 0) ∧ x.fdiv (2 ^ (min (Int.toNat 32) IntKind.u64.bits)) = 0 ∧ wrongF f h v m (ofBits c f) (ofExtra c) = 0 := by
  unfold rightO at hr
  simp only [Bool.and_eq_true, Bool.or_eq_true, decide_eq_true_eq] at hr
  obtain ⟨⟨⟨⟨⟨⟨a1, a2⟩, a3⟩, a4⟩, a5⟩, a6⟩, a7⟩ := hr
  cases h with
  | true => exact ⟨a6, fun _ => of_decide_eq_true a5, fun h => (by cases h), a1, fun _ => a2.resolve_left (by simp), a3, a4, a7⟩
  | false => exact ⟨a6, fun h => (by cases h), fun _ => of_decide_eq_true a5, a1, fun h => (by cases h), a3, a4, a7⟩
end Go.Eng
