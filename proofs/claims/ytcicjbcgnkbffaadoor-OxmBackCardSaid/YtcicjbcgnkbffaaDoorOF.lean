/- Contracts of functions of the given program, told by plain Lean functions. No condition. -/
import Derived.Test.YtcicjbcgnkbffaaDoorProg
import Derived.Test.YtcicjbcgnkbffaaDoorESum
import Derived.KernelRfl
import Derived.Test.YtcicjbcgnkbffaaDoorOE
namespace Go.Eng
open Go.Proofs
set_option linter.unusedVariables false
set_option linter.unusedSimpArgs false
set_option maxRecDepth 100000
set_option maxHeartbeats 1000000
def L1 : List Int := [128, 0, 10, 2, 8, 0, 7]
def L2 : List Int := [128, 0, 11, 4, 8, 0, 8, 0]
theorem s1 : decE L1 = 0 ∧ decI L1 (decC L1) = 32768 ∧ decI L1 (decF L1) = 5 ∧ decH L1 = false ∧ decI L1 (decX L1) = 0 ∧ decR L1 (decV L1) = [8, 0] ∧ decR L1 (decM L1) = [] ∧ decI L1 (decN L1) = 6 ∧ decE L2 = 1033 := by decide +kernel
theorem s2 : rightO 32768 5 false 0 [8, 0] [] = true ∧ encO 32768 5 false 0 [8, 0] [] = [128, 0, 10, 2, 8, 0] := by decide +kernel
def ir_l08_sure : IR :=
 (.seq
  (.reg ((⟨(some 0), .mov (.c (.kb false)), none⟩ : IOper) ::
    []))
  (.seq
   (.reg ((⟨(some 10), .sliceAll (.int .u8) 7 [(0, 1, (.c (.int .u8 128))), (1, 1, (.c (.int .u8 0))), (2, 1, (.c (.int .u8 10))), (3, 1, (.c (.int .u8 2))), (4, 1, (.c (.int .u8 8))), (5, 1, (.c (.int .u8 0))), (6, 1, (.c (.int .u8 7)))], none⟩ : IOper) ::
     (⟨(some 11), .call false (.f 14) [(.t 10)], none⟩ : IOper) ::
     (⟨(some 9), .mov (.t 11), none⟩ : IOper) ::
     (⟨(some 12), .extract (.t 9) 0, none⟩ : IOper) ::
     (⟨(some 13), .extract (.t 9) 1, none⟩ : IOper) ::
     (⟨(some 14), .extract (.t 9) 2, none⟩ : IOper) ::
     (⟨(some 1), .box [.int .i64 0, .int .i64 0, .kb false, .int .u64 0, .imm (.int .u8) [], .imm (.int .u8) []], none⟩ : IOper) ::
     (⟨none, .store 6 (.t 1) (.t 12), none⟩ : IOper) ::
     (⟨(some 2), .mov (.t 13), none⟩ : IOper) ::
     (⟨(some 3), .mov (.t 14), none⟩ : IOper) ::
     []))
   (.seq
    (.reg ((⟨(some 16), .sliceAll (.int .u8) 8 [(0, 1, (.c (.int .u8 128))), (1, 1, (.c (.int .u8 0))), (2, 1, (.c (.int .u8 11))), (3, 1, (.c (.int .u8 4))), (4, 1, (.c (.int .u8 8))), (5, 1, (.c (.int .u8 0))), (6, 1, (.c (.int .u8 8))), (7, 1, (.c (.int .u8 0)))], none⟩ : IOper) ::
      (⟨(some 17), .call false (.f 14) [(.t 16)], none⟩ : IOper) ::
      (⟨(some 15), .mov (.t 17), none⟩ : IOper) ::
      (⟨(some 18), .extract (.t 15) 0, none⟩ : IOper) ::
      (⟨(some 19), .extract (.t 15) 1, none⟩ : IOper) ::
      (⟨(some 20), .extract (.t 15) 2, none⟩ : IOper) ::
      (⟨(some 4), .box [.int .i64 0, .int .i64 0, .kb false, .int .u64 0, .imm (.int .u8) [], .imm (.int .u8) []], none⟩ : IOper) ::
      (⟨none, .store 6 (.t 4) (.t 18), none⟩ : IOper) ::
      (⟨(some 5), .mov (.t 19), none⟩ : IOper) ::
      (⟨(some 6), .mov (.t 20), none⟩ : IOper) ::
      []))
    (.seq
     (.reg ((⟨(some 22), .load (some 6) (.t 1), none⟩ : IOper) ::
       (⟨(some 23), .call false (.f 8) [(.t 22)], none⟩ : IOper) ::
       (⟨(some 21), .mov (.t 23), none⟩ : IOper) ::
       (⟨(some 24), .extract (.t 21) 0, none⟩ : IOper) ::
       (⟨(some 25), .extract (.t 21) 1, none⟩ : IOper) ::
       (⟨(some 7), .mov (.t 24), none⟩ : IOper) ::
       (⟨(some 8), .mov (.t 25), none⟩ : IOper) ::
       []))
     (.seq
      (.reg ((⟨(some 26), .mov (.t 3), none⟩ : IOper) ::
        (⟨(some 27), .bin .eql (.t 26) (.c (.int .i64 0)), none⟩ : IOper) ::
        (⟨(some 28), .mov (.t 27), none⟩ : IOper) ::
        (⟨(some 29), .mov (.t 2), (some (28, true))⟩ : IOper) ::
        (⟨(some 30), .bin .eql (.t 29) (.c (.int .i64 6)), (some (28, true))⟩ : IOper) ::
        (⟨(some 31), .pick (.t 28) (.t 30) (.c (.kb false)), none⟩ : IOper) ::
        (⟨(some 32), .mov (.t 31), none⟩ : IOper) ::
        (⟨(some 33), .fieldAddr 1 (.t 1), (some (32, true))⟩ : IOper) ::
        (⟨(some 34), .load none (.t 33), (some (32, true))⟩ : IOper) ::
        (⟨(some 35), .bin .eql (.t 34) (.c (.int .i64 5)), (some (32, true))⟩ : IOper) ::
        (⟨(some 36), .pick (.t 32) (.t 35) (.c (.kb false)), none⟩ : IOper) ::
        (⟨(some 37), .mov (.t 36), none⟩ : IOper) ::
        (⟨(some 38), .fieldAddr 4 (.t 1), (some (37, true))⟩ : IOper) ::
        (⟨(some 39), .load none (.t 38), (some (37, true))⟩ : IOper) ::
        (⟨(some 40), .sliceAll (.int .u8) 2 [(0, 1, (.c (.int .u8 8))), (1, 1, (.c (.int .u8 0)))], (some (37, true))⟩ : IOper) ::
        (⟨(some 41), .call false (.f 13) [(.t 39), (.t 40)], (some (37, true))⟩ : IOper) ::
        (⟨(some 42), .pick (.t 37) (.t 41) (.c (.kb false)), none⟩ : IOper) ::
        (⟨(some 43), .mov (.t 42), none⟩ : IOper) ::
        (⟨(some 44), .mov (.t 6), (some (43, true))⟩ : IOper) ::
        (⟨(some 45), .bin .eql (.t 44) (.c (.int .i64 1033)), (some (43, true))⟩ : IOper) ::
        (⟨(some 46), .pick (.t 43) (.t 45) (.c (.kb false)), none⟩ : IOper) ::
        (⟨(some 47), .mov (.t 46), none⟩ : IOper) ::
        (⟨(some 48), .mov (.t 8), (some (47, true))⟩ : IOper) ::
        (⟨(some 49), .bin .eql (.t 48) (.c (.int .i64 0)), (some (47, true))⟩ : IOper) ::
        (⟨(some 50), .pick (.t 47) (.t 49) (.c (.kb false)), none⟩ : IOper) ::
        (⟨(some 51), .mov (.t 50), none⟩ : IOper) ::
        (⟨(some 52), .mov (.t 7), (some (51, true))⟩ : IOper) ::
        (⟨(some 53), .sliceAll (.int .u8) 6 [(0, 1, (.c (.int .u8 128))), (1, 1, (.c (.int .u8 0))), (2, 1, (.c (.int .u8 10))), (3, 1, (.c (.int .u8 2))), (4, 1, (.c (.int .u8 8))), (5, 1, (.c (.int .u8 0)))], (some (51, true))⟩ : IOper) ::
        (⟨(some 54), .call false (.f 13) [(.t 52), (.t 53)], (some (51, true))⟩ : IOper) ::
        (⟨(some 55), .pick (.t 51) (.t 54) (.c (.kb false)), none⟩ : IOper) ::
        (⟨(some 56), .mov (.t 55), none⟩ : IOper) ::
        (⟨(some 57), .load (some 6) (.t 1), (some (56, true))⟩ : IOper) ::
        (⟨(some 58), .call false (.f 10) [(.t 57)], (some (56, true))⟩ : IOper) ::
        (⟨(some 59), .pick (.t 56) (.t 58) (.c (.kb false)), none⟩ : IOper) ::
        (⟨(some 0), .mov (.t 59), none⟩ : IOper) ::
        []))
      .ret)))))
def rd_l08_sure : List RD := [.tmp 0 true none]
theorem ok_l08_sure : fnOk Tryd.prog Tryd.f7 ir_l08_sure rd_l08_sure = true := by kernel_rfl
def S_l08_sure : List AV → List Obj → Option (Prop × AV)
  | [], [] => some ((True, .bool true))
  | _, _ => none
theorem snd_l08_sure : SoundS Tryd.prog 7 (RoF S_l08_sure).sum := by
  refine ro_fn Tryd.func7 ok_l08_sure (env_cons (s := RoF S_oxm_Decode) snd_oxm_Decode (env_cons (s := RoF S_oxm_Encode) snd_oxm_Encode (env_cons (s := RoF S_r01_Bytes) snd_r01_Bytes (env_cons (s := RoF S_oxm_Right) snd_oxm_Right (env_nil _))))) fun args objs p v e => ?_
  unfold S_l08_sure at e
  split at e
  · cases e
    refine ⟨rfl, fun hw ho hp => ?_⟩
    obtain ⟨e1, e2, e3, e4, e5, e6, e7, e8, e9⟩ := s1
    obtain ⟨r1, r2⟩ := s2
    unfold L1 at e1 e2 e3 e4 e5 e6 e7 e8
    unfold L2 at e9
    repeat' (intro t ht; first | (cases t <;> first | (cases ht; done) | ((try simp only [Bool.not_eq_eq_eq_not, Bool.not_true, Bool.not_false, Bool.and_eq_true, Bool.and_eq_false_iff, decide_eq_true_eq, decide_eq_false_iff_not] at ht); (try simp only [Int.toNat_natCast, dflt_int] at ht))) | (refine ht ?_ ?_ <;> clear ht) | (refine ht.1 ?_ ?_ <;> clear ht) | (refine ht ?_; clear ht))
    all_goals (try simp only [e1, e2, e3, e5, e6, e7, e8, e9, e4, r1, r2, if_true, reduceCtorEq, not_true_eq_false] at *)
    all_goals first
      | exact True.intro
      | exact ⟨by decide, by decide⟩
      | exact (by decide)
      | contradiction
      | trace_state
  · cases e
def ir_l08_OxmEncodes : IR :=
 (.seq
  (.reg ((⟨(some 1), .boxv (.t 0), none⟩ : IOper) ::
    (⟨(some 2), .mov (.c (.kb false)), none⟩ : IOper) ::
    []))
  (.seq
   (.seq
    (.reg ((⟨(some 7), .load (some 6) (.t 1), none⟩ : IOper) ::
      (⟨(some 8), .call false (.f 6) [(.t 7)], none⟩ : IOper) ::
      (⟨(some 9), .un .not (.t 8), none⟩ : IOper) ::
      []))
    (.cond (.t 9)
     (.seq
      (.reg ((⟨(some 10), .call false (.f 7) [], none⟩ : IOper) ::
        (⟨(some 2), .mov (.t 10), none⟩ : IOper) ::
        []))
      .ret)
     .skip))
   (.seq
    (.reg ((⟨(some 12), .load (some 6) (.t 1), none⟩ : IOper) ::
      (⟨(some 13), .call false (.f 8) [(.t 12)], none⟩ : IOper) ::
      (⟨(some 11), .mov (.t 13), none⟩ : IOper) ::
      (⟨(some 14), .extract (.t 11) 0, none⟩ : IOper) ::
      (⟨(some 15), .extract (.t 11) 1, none⟩ : IOper) ::
      (⟨(some 3), .mov (.t 14), none⟩ : IOper) ::
      (⟨(some 4), .mov (.t 15), none⟩ : IOper) ::
      []))
    (.seq
     (.reg ((⟨(some 17), .load (some 6) (.t 1), none⟩ : IOper) ::
       (⟨(some 18), .call false (.f 9) [(.t 17)], none⟩ : IOper) ::
       (⟨(some 16), .mov (.t 18), none⟩ : IOper) ::
       (⟨(some 19), .extract (.t 16) 0, none⟩ : IOper) ::
       (⟨(some 20), .extract (.t 16) 1, none⟩ : IOper) ::
       (⟨(some 5), .mov (.t 19), none⟩ : IOper) ::
       (⟨(some 6), .mov (.t 20), none⟩ : IOper) ::
       []))
     (.seq
      (.regD (((⟨(some 21), .load (some 6) (.t 1), none⟩, []) : IOper × List Nat) ::
        ((⟨(some 22), .call false (.f 10) [(.t 21)], none⟩, []) : IOper × List Nat) ::
        ((⟨(some 23), .load (some 6) (.t 1), none⟩, [0, 1]) : IOper × List Nat) ::
        ((⟨(some 24), .call false (.f 11) [(.t 23)], none⟩, []) : IOper × List Nat) ::
        ((⟨(some 25), .eqb false (.t 22) (.t 24), none⟩, []) : IOper × List Nat) ::
        ((⟨(some 26), .mov (.t 25), none⟩, []) : IOper × List Nat) ::
        ((⟨(some 27), .load (some 6) (.t 1), (some (26, true))⟩, []) : IOper × List Nat) ::
        ((⟨(some 28), .call false (.f 12) [(.t 27)], (some (26, true))⟩, []) : IOper × List Nat) ::
        ((⟨(some 29), .mov (.t 5), (some (26, true))⟩, [6, 7]) : IOper × List Nat) ::
        ((⟨(some 30), .len (.t 29), (some (26, true))⟩, [6, 7]) : IOper × List Nat) ::
        ((⟨(some 31), .bin .eql (.t 28) (.t 30), (some (26, true))⟩, []) : IOper × List Nat) ::
        ((⟨(some 32), .pick (.t 26) (.t 31) (.c (.kb false)), none⟩, []) : IOper × List Nat) ::
        ((⟨(some 33), .mov (.t 32), none⟩, []) : IOper × List Nat) ::
        ((⟨(some 34), .mov (.t 3), (some (33, true))⟩, []) : IOper × List Nat) ::
        ((⟨(some 35), .mov (.t 5), (some (33, true))⟩, [13]) : IOper × List Nat) ::
        ((⟨(some 36), .call false (.f 13) [(.t 34), (.t 35)], (some (33, true))⟩, []) : IOper × List Nat) ::
        ((⟨(some 37), .pick (.t 33) (.t 36) (.c (.kb false)), none⟩, []) : IOper × List Nat) ::
        ((⟨(some 38), .mov (.t 37), none⟩, []) : IOper × List Nat) ::
        ((⟨(some 39), .mov (.t 4), (some (38, true))⟩, []) : IOper × List Nat) ::
        ((⟨(some 40), .mov (.t 6), (some (38, true))⟩, [18]) : IOper × List Nat) ::
        ((⟨(some 41), .bin .eql (.t 39) (.t 40), (some (38, true))⟩, []) : IOper × List Nat) ::
        ((⟨(some 42), .pick (.t 38) (.t 41) (.c (.kb false)), none⟩, []) : IOper × List Nat) ::
        ((⟨(some 43), .mov (.t 42), none⟩, []) : IOper × List Nat) ::
        ((⟨(some 44), .call false (.f 7) [], (some (43, true))⟩, []) : IOper × List Nat) ::
        ((⟨(some 45), .pick (.t 43) (.t 44) (.c (.kb false)), none⟩, []) : IOper × List Nat) ::
        ((⟨(some 2), .mov (.t 45), none⟩, []) : IOper × List Nat) ::
        []))
      .ret)))))
def rd_l08_OxmEncodes : List RD := [.tmp 2 true none]
theorem ok_l08_OxmEncodes : fnOk Tryd.prog Tryd.f3 ir_l08_OxmEncodes rd_l08_OxmEncodes = true := by kernel_rfl
def S_l08_OxmEncodes : List AV → List Obj → Option (Prop × AV)
  | [.agg [.int .i64 c, .int .i64 f, .bool h, .int .u64 x, .imm (.int .u8) v, .imm (.int .u8) m]], [] => some ((True, .bool true))
  | _, _ => none
theorem snd_l08_OxmEncodes : SoundS Tryd.prog 3 (RoF S_l08_OxmEncodes).sum := by
  refine ro_fn Tryd.func3 ok_l08_OxmEncodes (env_cons (s := RoF S_r08_Few) snd_r08_Few (env_cons (s := RoF S_l08_sure) snd_l08_sure (env_cons (s := RoF S_oxm_Encode) snd_oxm_Encode (env_cons (s := RoF S_r08_Encode) snd_r08_Encode (env_cons (s := RoF S_oxm_Right) snd_oxm_Right (env_cons (s := RoF S_r08_Right) snd_r08_Right (env_cons (s := RoF S_oxm_Size) snd_oxm_Size (env_cons (s := RoF S_r01_Bytes) snd_r01_Bytes (env_nil _))))))))) fun args objs p v e => ?_
  unfold S_l08_OxmEncodes at e
  split at e
  · rename_i c f h x v m
    cases e
    refine ⟨rfl, fun hw ho hp => ?_⟩
    change List Int at v
    change List Int at m
    have hv : ∀ x ∈ v, 0 ≤ x ∧ x ≤ 255 := fun y hy => ((hw _ (List.mem_cons_self ..)) (.imm (.int .u8) v) (by simp)).1 y hy
    have hm : ∀ x ∈ m, 0 ≤ x ∧ x ≤ 255 := fun y hy => ((hw _ (List.mem_cons_self ..)) (.imm (.int .u8) m) (by simp)).1 y hy
    have hx0 : 0 ≤ x := ((hw _ (List.mem_cons_self ..)) (.int .u64 x) (by simp)).1
    have hrl := right_law (c := c) (f := f) (h := h) hx0 hv hm
    have hsz : sizeO c f h x v m = ((if rightO c f h x v m = true then refB c f h x v m else []).length : Int) := size_law
    have hen : (if rightO c f h x v m = true then encO c f h x v m else []) = (if refR c f h x v m = true then refB c f h x v m else []) := by
      rw [← hrl]; split
      · rename_i hr; exact enc_law hr
      · rfl
    rw [hrl] at hsz
    obtain ⟨B, hB⟩ : ∃ B, B = (if refR c f h x v m = true then refB c f h x v m else []) := ⟨_, rfl⟩
    rw [← hB] at hsz hen
    repeat' (intro t ht; first | (cases t <;> first | (cases ht; done) | ((try simp only [Bool.not_eq_eq_eq_not, Bool.not_true, Bool.not_false, Bool.and_eq_true, Bool.and_eq_false_iff, decide_eq_true_eq, decide_eq_false_iff_not] at ht); (try simp only [Int.toNat_natCast, dflt_int] at ht))) | (refine ht ?_ ?_ <;> clear ht) | (refine ht.1 ?_ ?_ <;> clear ht) | (refine ht ?_; clear ht))
    all_goals (try simp only [hrl, hsz, hen, ← hB, not_true_eq_false] at *)
    all_goals first
      | exact True.intro
      | exact (by decide)
      | (constructor <;> omega)
      | omega
      | contradiction
      | exact ⟨rfl, by first | rfl | exact True.intro⟩
      | (simp_all; done)
      | trace_state
  · cases e
def ir_l08_OxmDecodes : IR :=
 (.seq
  (.reg ((⟨(some 2), .mov (.c (.kb false)), none⟩ : IOper) ::
    []))
  (.seq
   (.seq
    (.reg ((⟨(some 9), .mov (.t 0), none⟩ : IOper) ::
      (⟨(some 10), .len (.t 9), none⟩ : IOper) ::
      (⟨(some 11), .bin .gtr (.t 10) (.c (.int .i64 600)), none⟩ : IOper) ::
      []))
    (.cond (.t 11)
     (.seq
      (.reg ((⟨(some 12), .call false (.f 7) [], none⟩ : IOper) ::
        (⟨(some 2), .mov (.t 12), none⟩ : IOper) ::
        []))
      .ret)
     .skip))
   (.seq
    (.reg ((⟨(some 14), .mov (.t 0), none⟩ : IOper) ::
      (⟨(some 15), .call false (.f 14) [(.t 14)], none⟩ : IOper) ::
      (⟨(some 13), .mov (.t 15), none⟩ : IOper) ::
      (⟨(some 16), .extract (.t 13) 0, none⟩ : IOper) ::
      (⟨(some 17), .extract (.t 13) 1, none⟩ : IOper) ::
      (⟨(some 18), .extract (.t 13) 2, none⟩ : IOper) ::
      (⟨(some 3), .box [.int .i64 0, .int .i64 0, .kb false, .int .u64 0, .imm (.int .u8) [], .imm (.int .u8) []], none⟩ : IOper) ::
      (⟨none, .store 6 (.t 3) (.t 16), none⟩ : IOper) ::
      (⟨(some 4), .mov (.t 17), none⟩ : IOper) ::
      (⟨(some 5), .mov (.t 18), none⟩ : IOper) ::
      []))
    (.seq
     (.reg ((⟨(some 20), .mov (.t 0), none⟩ : IOper) ::
       (⟨(some 21), .call false (.f 15) [(.t 20)], none⟩ : IOper) ::
       (⟨(some 19), .mov (.t 21), none⟩ : IOper) ::
       (⟨(some 22), .extract (.t 19) 0, none⟩ : IOper) ::
       (⟨(some 23), .extract (.t 19) 1, none⟩ : IOper) ::
       (⟨(some 24), .extract (.t 19) 2, none⟩ : IOper) ::
       (⟨(some 6), .box [.int .i64 0, .int .i64 0, .kb false, .int .u64 0, .imm (.int .u8) [], .imm (.int .u8) []], none⟩ : IOper) ::
       (⟨none, .store 6 (.t 6) (.t 22), none⟩ : IOper) ::
       (⟨(some 7), .mov (.t 23), none⟩ : IOper) ::
       (⟨(some 8), .mov (.t 24), none⟩ : IOper) ::
       []))
     (.seq
      (.reg ((⟨(some 25), .load (some 6) (.t 3), none⟩ : IOper) ::
        (⟨(some 26), .load (some 6) (.t 6), none⟩ : IOper) ::
        (⟨(some 27), .call false (.f 16) [(.t 25), (.t 26)], none⟩ : IOper) ::
        (⟨(some 28), .mov (.t 27), none⟩ : IOper) ::
        (⟨(some 29), .mov (.t 4), (some (28, true))⟩ : IOper) ::
        (⟨(some 30), .mov (.t 7), (some (28, true))⟩ : IOper) ::
        (⟨(some 31), .bin .eql (.t 29) (.t 30), (some (28, true))⟩ : IOper) ::
        (⟨(some 32), .pick (.t 28) (.t 31) (.c (.kb false)), none⟩ : IOper) ::
        (⟨(some 33), .mov (.t 32), none⟩ : IOper) ::
        (⟨(some 34), .mov (.t 5), (some (33, true))⟩ : IOper) ::
        (⟨(some 35), .mov (.t 8), (some (33, true))⟩ : IOper) ::
        (⟨(some 36), .bin .eql (.t 34) (.t 35), (some (33, true))⟩ : IOper) ::
        (⟨(some 37), .pick (.t 33) (.t 36) (.c (.kb false)), none⟩ : IOper) ::
        (⟨(some 38), .mov (.t 37), none⟩ : IOper) ::
        (⟨(some 39), .call false (.f 7) [], (some (38, true))⟩ : IOper) ::
        (⟨(some 40), .pick (.t 38) (.t 39) (.c (.kb false)), none⟩ : IOper) ::
        (⟨(some 2), .mov (.t 40), none⟩ : IOper) ::
        []))
      .ret)))))
def rd_l08_OxmDecodes : List RD := [.tmp 2 true none]
theorem ok_l08_OxmDecodes : fnOk Tryd.prog Tryd.f4 ir_l08_OxmDecodes rd_l08_OxmDecodes = true := by kernel_rfl
def S_l08_OxmDecodes : List AV → List Obj → Option (Prop × AV)
  | [.imm (.int .u8) b], [] => some ((True, .bool true))
  | _, _ => none
theorem snd_l08_OxmDecodes : SoundS Tryd.prog 4 (RoF S_l08_OxmDecodes).sum := by
  refine ro_fn Tryd.func4 ok_l08_OxmDecodes (env_cons (s := RoF S_l08_sure) snd_l08_sure (env_cons (s := RoF S_oxm_Decode) snd_oxm_Decode (env_cons (s := RoF S_r08_Decode) snd_r08_Decode (env_cons (s := RoF S_r08_Same) snd_r08_Same (env_nil _))))) fun args objs p v e => ?_
  unfold S_l08_OxmDecodes at e
  split at e
  · rename_i b
    cases e
    refine ⟨rfl, fun hw ho hp => ?_⟩
    change List Int at b
    have hb : ∀ x ∈ b, 0 ≤ x ∧ x ≤ 255 := fun y hy => (hw (.imm (.int .u8) b) (by simp)).1 y hy
    have hl := dec_law hb
    have hI : ∀ n, decI b n = rI b n := fun n => by unfold decI rI; rw [hl]
    have hR : ∀ n, decR b n = rR b n := fun n => by unfold decR rR; rw [hl]
    repeat' (intro t ht; first | (cases t <;> first | (cases ht; done) | ((try simp only [Bool.not_eq_eq_eq_not, Bool.not_true, Bool.not_false, Bool.and_eq_true, Bool.and_eq_false_iff, decide_eq_true_eq, decide_eq_false_iff_not] at ht); (try simp only [Int.toNat_natCast, dflt_int] at ht))) | (refine ht ?_ ?_ <;> clear ht) | (refine ht.1 ?_ ?_ <;> clear ht) | (refine ht ?_; clear ht))
    all_goals (try simp only [hl, hI, hR, not_true_eq_false] at *)
    all_goals first
      | exact True.intro
      | exact (by decide)
      | omega
      | contradiction
      | exact ⟨rfl, by first | rfl | exact True.intro⟩
      | (unfold sameO at *; simp_all; done)
      | trace_state
  · cases e
end Go.Eng
