/- Parts of the proof: Z3, Z4, Z2. No condition. -/
import Derived.Test.YtbenhegdnaoalaaGreatDoorProg
import Derived.Test.YtbenhegdnaoalaaGreatDoorWA10
import Derived.KernelRfl
import Derived.Test.YtbenhegdnaoalaaGreatDoorWA20
namespace Go.Eng
open Go.Proofs
set_option linter.unusedVariables false
set_option linter.unusedSimpArgs false
set_option maxRecDepth 100000
set_option maxHeartbeats 1000000
theorem sum_abs0 : ∀ (w : List Int), 0 ≤ (w.map absI).sum
  | [] => Int.le_refl _
  | n :: r => by
    have ha : 0 ≤ absI n := by unfold absI; split <;> omega
    have hr := sum_abs0 r
    rw [List.map_cons, List.sum_cons]; omega
theorem getA_one : ∀ (w b o : List Int), (getA w b o).2 = 1 → (b.length : Int) < (w.map absI).sum
  | [], b, o, h => by cases h
  | n :: r, b, o, h => by
    have ha : 0 ≤ absI n := by unfold absI; split <;> omega
    have hr := sum_abs0 r
    simp only [getA] at h
    rw [List.map_cons, List.sum_cons]
    split at h
    · omega
    · split at h
      · have := getA_one r _ _ h; rw [List.length_drop] at this; omega
      · split at h
        · have := getA_one r _ _ h; rw [List.length_drop] at this; omega
        · exact absurd h (by decide)
theorem getK_one {w b : List Int} (h : getK w b = 1) : (b.length : Int) < sizeW w := by
  unfold getK getF at h
  split at h
  · rename_i c
    unfold sizeW; rw [if_pos c]; exact getA_one _ _ _ h
  · exact absurd h (by decide)
theorem rI_0 {b : List Int} (h : rE b = 0) : (∀ x, rI b x = x) ∧ ∀ l, rR b l = l := ⟨fun _ => if_pos h, fun _ => if_pos h⟩
theorem bd_by {b : List Int} (hb : ∀ x ∈ b, 0 ≤ x ∧ x ≤ 255) : ∀ x ∈ bd b, 0 ≤ x ∧ x ≤ 255 := fun x hx => hb x (List.mem_of_mem_take (List.mem_of_mem_drop hx))
theorem bd_ge {b : List Int} (h : tlE b 8 8 514 = 0) : 4 ≤ (bd b).length := by
  unfold tlE at h
  split at h
  · cases h
  · split at h
    · cases h
    · split at h
      · cases h
      · unfold bd; rw [List.length_drop, List.length_take]; omega
def ir_r12_set : IR :=
(.seq
(.keep [0]
(.reg (oD 2 (.box [.int .i64 0, .int .i64 0, .kb false, .int .u64 0, .imm (.int .u8) [], .imm (.int .u8) []]) ::
oD 3 (.mov (cI 0)) ::
[])))
(.seq
(.keep [0, 2]
(.reg (oM 9 0 ::
oD 10 (.call false (.f 215) [(.t 9)]) ::
oM 8 10 ::
oD 11 (.extract (.t 8) 0) ::
oD 12 (.extract (.t 8) 1) ::
oD 13 (.extract (.t 8) 2) ::
oD 4 (.box [.int .i64 0, .int .i64 0, .kb false, .int .u64 0, .imm (.int .u8) [], .imm (.int .u8) []]) ::
oN (.store 6 (.t 4) (.t 11)) ::
oM 5 12 ::
oM 6 13 ::
[])))
(.seq
(.block 0
(.seq
(.keep [0, 2, 4, 5, 6]
(.reg (oM 15 6 ::
oD 16 (.bin .eql (.t 15) (cI 1026)) ::
oM 14 16 ::
[])))
(.cond (.t 14)
(.seq
(.reg (oD 17 (.load (some 6) (.t 4)) ::
oN (.store 6 (.t 2) (.t 17)) ::
oD 3 (.mov (cI 527)) ::
[]))
.ret)
(.seq
(.reg (oM 19 6 ::
oD 20 (.bin .eql (.t 19) (cI 1031)) ::
oM 18 20 ::
[]))
(.cond (.t 18)
(.seq
(.keep [2, 4]
(.reg (oD 21 (.load (some 6) (.t 4)) ::
oN (.store 6 (.t 2) (.t 21)) ::
oD 3 (.mov (cI 526)) ::
[])))
.ret)
(.seq
(.keep [0, 2, 4, 5, 6]
(.reg (oM 23 6 ::
oD 24 (.bin .neq (.t 23) (cI 0)) ::
oM 22 24 ::
[])))
(.cond (.t 22)
(.seq
(.reg (oD 25 (.load (some 6) (.t 4)) ::
oN (.store 6 (.t 2) (.t 25)) ::
oD 3 (.mov (cI 528)) ::
[]))
.ret)
(.seq
(.keep [0, 2, 4, 5]
(.reg (oD 27 (.fieldAddr 0 (.t 4)) ::
oL 28 27 ::
oD 29 (.bin .neq (.t 28) (cI 32768)) ::
oM 30 29 ::
oF 30 31 (.fieldAddr 1 (.t 4)) ::
oF 30 32 (.load none (.t 31)) ::
oF 30 33 (.call false (.f 237) [(.t 32)]) ::
oF 30 34 (.un .not (.t 33)) ::
oD 35 (.pick (.t 30) cT (.t 34)) ::
oM 26 35 ::
[])))
(.cond (.t 26)
(.seq
(.keep [2, 4]
(.reg (oD 36 (.load (some 6) (.t 4)) ::
oN (.store 6 (.t 2) (.t 36)) ::
oD 3 (.mov (cI 526)) ::
[])))
.ret)
(.seq
(.keep [0, 2, 4, 5]
(.reg (oD 38 (.fieldAddr 2 (.t 4)) ::
oL 39 38 ::
oM 37 39 ::
[])))
(.cond (.t 37)
(.seq
(.reg (oD 40 (.load (some 6) (.t 4)) ::
oN (.store 6 (.t 2) (.t 40)) ::
oD 3 (.mov (cI 528)) ::
[]))
.ret)
(.seq
(.keep [0, 2, 4, 5]
(.reg (oM 42 0 ::
oD 43 (.len (.t 42)) ::
oM 44 5 ::
oD 45 (.bin .add (.t 44) (cI 8)) ::
oD 46 (.bin .geq (.t 43) (.t 45)) ::
oM 47 46 ::
oF 47 48 (.mov (.t 0)) ::
oF 47 49 (.len (.t 48)) ::
oF 47 50 (.mov (.t 5)) ::
oF 47 51 (.bin .lss (.t 49) (.t 50)) ::
oD 52 (.pick (.t 47) cT (.t 51)) ::
oM 41 52 ::
[])))
(.cond (.t 41)
(.seq
(.keep [2, 4]
(.reg (oD 53 (.load (some 6) (.t 4)) ::
oN (.store 6 (.t 2) (.t 53)) ::
oD 3 (.mov (cI 527)) ::
[])))
.ret)
.skip)))))))))))))
(.seq
(.seq
(.keep [0, 2, 4, 5]
(.reg (oM 54 5 ::
oM 7 54 ::
[])))
(.block 1
(.loop
(.seq
(.seq
(.keep [0, 2, 4, 7]
(.reg (oM 55 7 ::
oM 56 0 ::
oD 57 (.len (.t 56)) ::
oD 58 (.bin .lss (.t 55) (.t 57)) ::
[])))
(.cond (.t 58)
.skip
(.exit 1)))
(.seq
(.block 2
(.seq
(.keep [0, 2, 4, 7]
(.reg (oM 61 0 ::
oM 62 7 ::
oD 63 (.indexSl 1 (.t 61) (.t 62)) ::
oL 64 63 ::
oD 65 (.bin .neq (.t 64) (.c (.int .u8 0))) ::
[])))
(.cond (.t 65)
(.seq
(.reg (oD 66 (.load (some 6) (.t 4)) ::
oN (.store 6 (.t 2) (.t 66)) ::
oD 3 (.mov (cI 528)) ::
[]))
.ret)
.skip)))
(.keep [0, 2, 4, 7]
(.reg (oM 59 7 ::
oD 60 (.bin .add (.t 59) (cI 1)) ::
oM 7 60 ::
[]))))))))
(.seq
(.keep [2, 4]
(.reg (oD 67 (.load (some 6) (.t 4)) ::
oN (.store 6 (.t 2) (.t 67)) ::
oD 3 (.mov (cI 0)) ::
[])))
.ret)))))
def rd_r12_set : List RD := [.cell 2 (some 6) true [], .tmp 3 true none]
theorem ok_r12_set : fnOk Tryz.prog Tryz.f197 ir_r12_set rd_r12_set = true := by kernel_rfl
def S_r12_set : List AV → List Obj → Option (Prop × AV)
  | [.imm (.int .u8) b], [] => some ((b.length ≤ 140737, .tup [.agg [.int .i64 (rI b (decC b)), .int .i64 (rI b (decF b)), .bool ((if rE b = 0 then decH b else false)), .int .u64 (rI b (decX b)), .imm (.int .u8) (rR b (decV b)), .imm (.int .u8) (rR b (decM b))], .int .i64 (setE b)]))
  | _, _ => none
theorem snd_r12_set : SoundS Tryz.prog 197 (RoF S_r12_set).sum := by
  refine ro_fn Tryz.func197 ok_r12_set (env_cons (s := RoF S_r08_Decode) snd_r08_Decode (env_cons (s := RoF S_r07_Settable) snd_r07_Settable (env_nil _))) fun args objs p v e => ?_
  unfold S_r12_set at e
  split at e
  · rename_i b
    cases e
    refine ⟨rfl, fun hw ho hp => ?_⟩
    change List Int at b
    have hb : ∀ x ∈ (b : List Int), (0 : Int) ≤ x ∧ x ≤ 255 := fun x hx => (hw (.imm (.int .u8) b) (by simp)).1 x hx
    clear hw ho
    have hdl := dec_law hb
    by_cases h0 : rE b = 0
    · obtain ⟨_, _, hN, hNl⟩ := enc_dec hb (hdl.trans h0)
      have hS : setE b = if ¬ (decC b = 32768 ∧ settF (decF b) = true) then 526 else if decH b = true then 528 else if decN b + 8 ≤ b.length then 527 else if zeroL (b.drop (decN b).toNat) = true then 0 else 528 := if_pos (hdl.trans h0)
      obtain ⟨i1, i2⟩ := rI_0 h0
      rw [i1, i1, i1, i2, i2, if_pos h0]
      repeat' (intro t ht; first | (cases t <;> first | (cases ht; done) | ((try simp only [bn_s] at ht); (try simp only [nd_s] at ht))) | (refine ht ?_ ?_ <;> clear ht) | (refine ht.1 ?_ ?_ <;> clear ht) | (refine ht ?_; clear ht))
      all_goals first
        | exact True.intro
        | omega
        | contradiction
        | (intro r h1 h2; clear h1; refine h2 ⟨[0, 2, 4, 7], Nat, (fun i => i ≤ b.length ∧ zeroL (b.drop (decN b).toNat) = zeroL (b.drop i)), fun i => [.imm (.int .u8) b, .ptr 0 0, .ptr 1 0, .int .i64 i], fun _ => [.box [.int .i64 0, .int .i64 0, .bool false, .int .u64 0, .imm (.int .u8) [], .imm (.int .u8) []], .box [.int .i64 (decC b), .int .i64 (decF b), .bool (decH b), .int .u64 (decX b), .imm (.int .u8) (decV b), .imm (.int .u8) (decM b)]], fun i => b.length - i, ⟨(decN b).toNat, ⟨by omega, rfl⟩, (by simp only [i1, Int.toNat_of_nonneg hN]; try rfl), (by simp only [i1, i2, h0, if_true]; try rfl)⟩, ?_⟩; clear h2)
        | (simp only [i1, min_i64, max_i64]; omega)
        | (exfalso; simp only [i1] at *; omega)
        | (have hS2 := hS; simp only [i1, i2, if_pos h0] at *; rw [hS2]; simp_all; done)
        | trace_state
      rintro i ⟨hi, he⟩
      (try dsimp only at hi he)
      repeat' (intro t ht; first | (cases t <;> first | (cases ht; done) | ((try simp only [bn_s] at ht); (try simp only [nd_s] at ht))) | (refine ht ?_ ?_ <;> clear ht) | (refine ht.1 ?_ ?_ <;> clear ht) | (refine ht ?_; clear ht))
      all_goals (try simp only [i1, if_pos h0] at *)
      all_goals first
        | exact True.intro
        | omega
        | ((try simp only [nd_s, bn_s, mm_s] at *); omega)
        | (have hge : b.length ≤ i := by omega
           rw [List.drop_of_length_le hge] at he
           have hS0 : setE b = 0 := by
             rw [hS, if_neg (not_not_intro ⟨by assumption, by assumption⟩), if_neg (show ¬ decH b = true from fun h => by simp_all), if_neg (by assumption), he]; rfl
           rw [hS0]; exact ⟨rfl, by first | rfl | exact True.intro⟩)
        | (have hlt : i < b.length := by omega
           rw [drop_step hlt 0] at he
           unfold zeroL at he
           rw [List.all_cons] at he
           first
             | (have hk : decide (b.getD i 0 = 0) = true := decide_eq_true (by assumption)
                rw [hk, Bool.true_and] at he
                exact ⟨i + 1, ⟨hlt, he⟩, by omega, rfl, by first | rfl | exact True.intro⟩)
             | (have hk : decide (b.getD i 0 = 0) = false := decide_eq_false (by assumption)
                rw [hk, Bool.false_and] at he
                have hS0 : setE b = 528 := by
                  rw [hS, if_neg (not_not_intro ⟨by assumption, by assumption⟩), if_neg (show ¬ decH b = true from fun h => by simp_all), if_neg (by assumption)]
                  unfold zeroL; rw [he]; rfl
                rw [hS0]; exact ⟨rfl, by first | rfl | exact True.intro⟩))
        | trace_state
    · have hd0 : ¬ decE b = 0 := fun h => h0 (hdl.symm.trans h)
      have hS : setE b = if decE b = 1026 then 527 else if decE b = 1031 then 526 else 528 := if_neg hd0
      rw [hdl] at hS
      repeat' (intro t ht; first | (cases t <;> first | (cases ht; done) | ((try simp only [bn_s] at ht); (try simp only [nd_s] at ht); (try (exfalso; first | contradiction | omega)))) | (refine ht ?_ ?_ <;> clear ht) | (refine ht.1 ?_ ?_ <;> clear ht) | (refine ht ?_; clear ht))
      all_goals first
        | exact True.intro
        | omega
        | contradiction
        | (have hS2 := hS; rw [if_pos (show rE b = 1026 by assumption)] at hS2; rw [hS2]; exact ⟨rfl, by first | rfl | exact True.intro⟩)
        | (have hS2 := hS; rw [if_neg (show ¬ rE b = 1026 by assumption), if_pos (show rE b = 1031 by assumption)] at hS2; rw [hS2]; exact ⟨rfl, by first | rfl | exact True.intro⟩)
        | (have hS2 := hS; rw [if_neg (show ¬ rE b = 1026 by assumption), if_neg (show ¬ rE b = 1031 by assumption)] at hS2; rw [hS2]; exact ⟨rfl, by first | rfl | exact True.intro⟩)
        | trace_state
  · cases e
end Go.Eng
namespace Go.Eng
open Go.Proofs
set_option linter.unusedVariables false
set_option linter.unusedSimpArgs false
set_option maxRecDepth 100000
set_option maxHeartbeats 1000000
set_option maxHeartbeats 8000000
def ir_r12_Decode : IR :=
(.seq
(.keep [0]
(.reg (oD 2 (.box [.int .i64 0, .int .u64 0, .int .u64 0, .int .i64 0, .int .i64 0, .kb false, .int .u64 0, .nils, .nils, .nils]) ::
oD 3 (.mov (cI 0)) ::
oD 4 (.mov (cI 0)) ::
[])))
(.seq
(.keep [0, 2]
(.reg (oD 18 (.build [.int .i64 0, .int .i64 0, .kb false, .int .i64 0, .int .i64 0] [(0, 1, (cI 8)), (1, 1, (cI 8)), (3, 1, (cI 514)), (4, 1, (cI 514))]) ::
oM 19 0 ::
oD 20 (.call false (.f 196) [(.t 18), (.t 19)]) ::
oM 17 20 ::
oD 21 (.extract (.t 17) 0) ::
oD 22 (.extract (.t 17) 1) ::
oD 23 (.extract (.t 17) 2) ::
oD 5 (.box [.int .i64 0, .nils]) ::
oN (.store 2 (.t 5) (.t 21)) ::
oM 6 22 ::
oM 7 23 ::
[])))
(.seq
(.seq
(.keep [2, 5, 6, 7]
(.reg (oM 24 7 ::
oD 25 (.bin .neq (.t 24) (cI 0)) ::
[])))
(.cond (.t 25)
(.seq
(.reg (oD 26 (.build [.int .i64 0, .int .u64 0, .int .u64 0, .int .i64 0, .int .i64 0, .kb false, .int .u64 0, .nils, .nils, .nils] []) ::
oM 27 7 ::
oN (.store 10 (.t 2) (.t 26)) ::
oD 3 (.mov (cI 0)) ::
oM 4 27 ::
[]))
.ret)
.skip))
(.seq
(.keep [2, 5, 6]
(.reg (oD 28 (.fieldAddr 0 (.t 5)) ::
oL 29 28 ::
oD 30 (.build [.int .i64 0, .int .u64 0, .int .u64 0, .int .i64 0, .int .i64 0, .kb false, .int .u64 0, .nils, .nils, .nils] [(0, 1, (.t 29))]) ::
oD 8 (.box [.int .i64 0, .int .u64 0, .int .u64 0, .int .i64 0, .int .i64 0, .kb false, .int .u64 0, .nils, .nils, .nils]) ::
oN (.store 10 (.t 8) (.t 30)) ::
[])))
(.seq
(.seq
(.reg (oD 31 (.fieldAddr 0 (.t 8)) ::
oL 32 31 ::
oD 33 (.bin .eql (.t 32) (cI 25)) ::
[]))
(.cond (.t 33)
(.seq
(.keep [2, 5, 6, 8]
(.reg (oD 35 (.fieldAddr 1 (.t 5)) ::
oL 36 35 ::
oD 37 (.call false (.f 197) [(.t 36)]) ::
oM 34 37 ::
oD 38 (.extract (.t 34) 0) ::
oD 39 (.extract (.t 34) 1) ::
oD 9 (.box [.int .i64 0, .int .i64 0, .kb false, .int .u64 0, .nils, .nils]) ::
oN (.store 6 (.t 9) (.t 38)) ::
oM 10 39 ::
[])))
(.seq
(.seq
(.keep [2, 6, 8, 9, 10]
(.reg (oM 40 10 ::
oD 41 (.bin .neq (.t 40) (cI 0)) ::
[])))
(.cond (.t 41)
(.seq
(.reg (oD 42 (.build [.int .i64 0, .int .u64 0, .int .u64 0, .int .i64 0, .int .i64 0, .kb false, .int .u64 0, .nils, .nils, .nils] []) ::
oM 43 10 ::
oN (.store 10 (.t 2) (.t 42)) ::
oD 3 (.mov (cI 0)) ::
oM 4 43 ::
[]))
.ret)
.skip))
(.seq
(.keep [2, 6, 8, 9]
(.reg (oD 44 (.load (some 6) (.t 9)) ::
oD 45 (.fieldAddr 3 (.t 8)) ::
oN (.store 6 (.t 45) (.t 44)) ::
[])))
(.seq
(.reg (oD 46 (.load (some 10) (.t 8)) ::
oM 47 6 ::
oN (.store 10 (.t 2) (.t 46)) ::
oM 3 47 ::
oD 4 (.mov (cI 0)) ::
[]))
.ret))))
.skip))
(.seq
(.keep [2, 5, 6, 8]
(.reg (oD 49 (.fieldAddr 0 (.t 8)) ::
oL 50 49 ::
oD 51 (.call false (.f 198) [(.t 50)]) ::
oM 48 51 ::
oD 52 (.extract (.t 48) 0) ::
oD 53 (.extract (.t 48) 1) ::
oM 11 52 ::
oM 12 53 ::
[])))
(.seq
(.seq
(.keep [2, 5, 6, 8, 11, 12]
(.reg (oM 54 12 ::
oD 55 (.un .not (.t 54)) ::
[])))
(.cond (.t 55)
(.seq
(.reg (oD 56 (.build [.int .i64 0, .int .u64 0, .int .u64 0, .int .i64 0, .int .i64 0, .kb false, .int .u64 0, .nils, .nils, .nils] []) ::
oN (.store 10 (.t 2) (.t 56)) ::
oD 3 (.mov (cI 0)) ::
oD 4 (.mov (cI 513)) ::
[]))
.ret)
.skip))
(.seq
(.reg (oM 57 11 ::
oD 58 (.call false (.f 65) [(.t 57)]) ::
oM 13 58 ::
[]))
(.seq
(.seq
(.keep [2, 5, 6, 8, 11, 13]
(.reg (oD 59 (.fieldAddr 0 (.t 8)) ::
oL 60 59 ::
oD 61 (.bin .neq (.t 60) (cI 65535)) ::
oM 62 61 ::
oT 62 63 (.fieldAddr 1 (.t 5)) ::
oT 62 64 (.load none (.t 63)) ::
oT 62 65 (.len (.t 64)) ::
oT 62 66 (.mov (.t 13)) ::
oT 62 67 (.bin .neq (.t 65) (.t 66)) ::
oD 68 (.pick (.t 62) (.t 67) cF) ::
[])))
(.cond (.t 68)
(.seq
(.keep [2]
(.reg (oD 69 (.build [.int .i64 0, .int .u64 0, .int .u64 0, .int .i64 0, .int .i64 0, .kb false, .int .u64 0, .nils, .nils, .nils] []) ::
oN (.store 10 (.t 2) (.t 69)) ::
oD 3 (.mov (cI 0)) ::
oD 4 (.mov (cI 514)) ::
[])))
.ret)
.skip))
(.seq
(.keep [2, 5, 6, 8, 11, 13]
(.reg (oM 71 11 ::
oD 72 (.fieldAddr 1 (.t 5)) ::
oL 73 72 ::
oD 74 (.call false (.f 67) [(.t 71), (.t 73)]) ::
oM 70 74 ::
oD 75 (.extract (.t 70) 0) ::
oD 76 (.extract (.t 70) 1) ::
oM 14 75 ::
oM 15 76 ::
[])))
(.seq
(.seq
(.keep [2, 5, 6, 8, 13, 14, 15]
(.reg (oM 77 15 ::
oD 78 (.bin .neq (.t 77) (cI 0)) ::
[])))
(.cond (.t 78)
(.seq
(.reg (oD 79 (.build [.int .i64 0, .int .u64 0, .int .u64 0, .int .i64 0, .int .i64 0, .kb false, .int .u64 0, .nils, .nils, .nils] []) ::
oN (.store 10 (.t 2) (.t 79)) ::
oD 3 (.mov (cI 0)) ::
oD 4 (.mov (cI 518)) ::
[]))
.ret)
.skip))
(.seq
(.seq
(.reg (oM 80 14 ::
oD 81 (.len (.t 80)) ::
oD 82 (.bin .gtr (.t 81) (cI 0)) ::
[]))
(.cond (.t 82)
(.keep [2, 5, 6, 8, 13, 14]
(.reg (oM 83 14 ::
oD 84 (.indexSl 1 (.t 83) (cI 0)) ::
oL 85 84 ::
oD 86 (.fieldAddr 1 (.t 8)) ::
oN (.store 1 (.t 86) (.t 85)) ::
[])))
.skip))
(.seq
(.seq
(.keep [2, 5, 6, 8, 13, 14]
(.reg (oM 87 14 ::
oD 88 (.len (.t 87)) ::
oD 89 (.bin .gtr (.t 88) (cI 1)) ::
[])))
(.cond (.t 89)
(.reg (oM 90 14 ::
oD 91 (.indexSl 1 (.t 90) (cI 1)) ::
oL 92 91 ::
oD 93 (.fieldAddr 2 (.t 8)) ::
oN (.store 1 (.t 93) (.t 92)) ::
[]))
.skip))
(.seq
(.seq
(.keep [2, 5, 6, 8, 13]
(.reg (oD 94 (.fieldAddr 0 (.t 8)) ::
oL 95 94 ::
oD 96 (.fieldAddr 1 (.t 8)) ::
oL 97 96 ::
oD 98 (.call false (.f 199) [(.t 95), (.t 97)]) ::
oM 16 98 ::
[])))
(.seq
(.reg (oM 99 16 ::
oD 100 (.bin .neq (.t 99) (cI 0)) ::
[]))
(.cond (.t 100)
(.seq
(.keep [2, 16]
(.reg (oD 101 (.build [.int .i64 0, .int .u64 0, .int .u64 0, .int .i64 0, .int .i64 0, .kb false, .int .u64 0, .nils, .nils, .nils] []) ::
oM 102 16 ::
oN (.store 10 (.t 2) (.t 101)) ::
oD 3 (.mov (cI 0)) ::
oM 4 102 ::
[])))
.ret)
.skip)))
(.seq
(.keep [2, 5, 6, 8, 13]
(.regD ((oD 103 (.fieldAddr 9 (.t 8)), []) ::
(oL 104 103, []) ::
(oD 105 (.fieldAddr 1 (.t 5)), [0, 0]) ::
(oL 106 105, [1, 0]) ::
(oM 107 13, [0, 0, 0, 0]) ::
(oD 108 (.slice 1 (.t 106) (some (.t 107)) none none), [3, 0]) ::
(oD 109 (.append (.int .u8) 1 (.t 104) (.t 108)), []) ::
(oD 110 (.fieldAddr 9 (.t 8)), []) ::
(oN (.store 1 (.t 110) (.t 109)), []) ::
[])))
(.seq
(.keep [2, 6, 8]
(.reg (oD 111 (.load (some 10) (.t 8)) ::
oM 112 6 ::
oN (.store 10 (.t 2) (.t 111)) ::
oM 3 112 ::
oD 4 (.mov (cI 0)) ::
[])))
.ret))))))))))))))))
def rd_r12_Decode : List RD := [.cell 2 (some 10) true [none, none, none, none, none, none, none, (some (.int .u8)), (some (.int .u8)), (some (.int .u8))], .tmp 3 true none, .tmp 4 true none]
theorem ok_r12_Decode : fnOk Tryz.prog Tryz.f134 ir_r12_Decode rd_r12_Decode = true := by kernel_rfl
def S_r12_Decode : List AV → List Obj → Option (Prop × AV)
  | [.imm (.int .u8) b], [] => some ((b.length ≤ 100000, .tup [.agg [.int .i64 (acI b (tT b)), .int .u64 (acA b 0), .int .u64 (acA b 1), .int .i64 (acS b (decC (bd b))), .int .i64 (acS b (decF (bd b))), .bool (acH b), .int .u64 (acS b (decX (bd b))), .imm (.int .u8) (acV b (decV (bd b))), .imm (.int .u8) (acV b (decM (bd b))), .imm (.int .u8) (acD b)], .int .i64 (acI b (tN b)), .int .i64 (acE b)]))
  | _, _ => none
theorem snd_r12_Decode : SoundS Tryz.prog 134 (RoF S_r12_Decode).sum := by
  refine ro_fn Tryz.func134 ok_r12_Decode (env_cons (s := RoF S_r04_One) snd_r04_One (env_cons (s := RoF S_r12_set) snd_r12_set (env_cons (s := RoF S_r12_row) snd_r12_row (env_cons (s := RoF S_r01_Size) snd_r01_Size (env_cons (s := RoF S_r01_Get) snd_r01_Get (env_cons (s := RoF S_r12_asked) snd_r12_asked (env_nil _))))))) fun args objs p v e => ?_
  unfold S_r12_Decode at e
  split at e
  · rename_i b
    cases e
    refine ⟨rfl, fun hw ho hp => ?_⟩
    change List Int at b
    have hb : ∀ x ∈ (b : List Int), (0 : Int) ≤ x ∧ x ≤ 255 := fun x hx => (hw (.imm (.int .u8) b) (by simp)).1 x hx
    clear hw ho
    have hbl := bd_le hb
    have hbb := bd_by hb
    have hs : (False = False) ∧ (4 ≤ (8 : Int) ∧ (8 : Int) ≤ 60000 ∧ 1 ≤ (8 : Int) ∧ (8 : Int) ≤ 64 ∧ (514 : Int) ≠ 0 ∧ (514 : Int) ≠ 0) := ⟨rfl, by decide, by decide, by decide, by decide, by decide, by decide⟩
    by_cases hT : tlE b 8 8 514 = 0
    · have hI : ∀ x, tlI b 8 8 514 x = x := fun x => if_pos hT
      have hR : tlR b 8 8 514 = bd b := if_pos hT
      have hge := bd_ge hT
      by_cases h25 : tT b = 25
      · have hE : acE b = setE (bd b) := by unfold acE; rw [if_neg (not_not_intro hT), if_pos h25]
        by_cases h0 : setE (bd b) = 0
        · have hd0 : decE (bd b) = 0 := Classical.byContradiction fun h => by
            unfold setE at h0; rw [if_neg h] at h0
            split at h0
            · cases h0
            · split at h0 <;> cases h0
          have hr0 : rE (bd b) = 0 := (dec_law hbb).symm.trans hd0
          obtain ⟨hdI, hdR⟩ := rI_0 hr0
          obtain ⟨n1, n2, n3, n4, n5, n6⟩ := ac_set (hE.trans h0) h25
          rw [n1, n2, n2, n3, n3, n3, n4, n5, n5, n6, n1, hE, h0]
          repeat' (intro t ht; first | (cases t <;> first | (cases ht; done) | ((try simp only [bn_s] at ht); (try simp only [nd_s] at ht); (try (exfalso; first | contradiction | omega)))) | (refine ht ?_ ?_ <;> clear ht) | (refine ht.1 ?_ ?_ <;> clear ht) | (refine ht ?_; clear ht))
          all_goals (try simp only [hT, hI, hR, h0, h25, hdI, hdR, if_pos hr0, not_true_eq_false] at *)
          all_goals first
            | exact True.intro
            | omega
            | exact ⟨by first | rfl | exact True.intro, ⟨by decide, by decide, by decide, by decide, by decide, by decide⟩, by omega⟩
            | exact ⟨rfl, by first | rfl | exact True.intro⟩
            | exact ⟨True.intro, True.intro⟩
            | (exfalso; simp_all; done)
            | trace_state
        · obtain ⟨n1, n2, n3, n4, n5, n6⟩ := ac_bad (b := b) (by rw [hE]; exact h0)
          rw [n1, n2, n2, n3, n3, n3, n4, n5, n5, n6, n1, hE]
          repeat' (intro t ht; first | (cases t <;> first | (cases ht; done) | ((try simp only [bn_s] at ht); (try simp only [nd_s] at ht); (try (exfalso; first | contradiction | omega)))) | (refine ht ?_ ?_ <;> clear ht) | (refine ht.1 ?_ ?_ <;> clear ht) | (refine ht ?_; clear ht))
          all_goals (try simp only [hT, hI, hR, h25, not_true_eq_false] at *)
          all_goals first
            | exact True.intro
            | omega
            | exact ⟨by first | rfl | exact True.intro, ⟨by decide, by decide, by decide, by decide, by decide, by decide⟩, by omega⟩
            | exact ⟨rfl, by first | rfl | exact True.intro⟩
            | exact ⟨True.intro, True.intro⟩
            | (exfalso; simp_all; done)
            | trace_state
      · cases hK : rowK (tT b) with
        | false =>
          have hE : acE b = 513 := by unfold acE; rw [if_neg (not_not_intro hT), if_neg h25, hK]; rfl
          obtain ⟨n1, n2, n3, n4, n5, n6⟩ := ac_bad (b := b) (by rw [hE]; decide)
          rw [n1, n2, n2, n3, n3, n3, n4, n5, n5, n6, n1, hE]
          repeat' (intro t ht; first | (cases t <;> first | (cases ht; done) | ((try simp only [bn_s] at ht); (try simp only [nd_s] at ht); (try (exfalso; first | contradiction | omega)))) | (refine ht ?_ ?_ <;> clear ht) | (refine ht.1 ?_ ?_ <;> clear ht) | (refine ht ?_; clear ht))
          all_goals (try simp only [hT, hI, hR, not_true_eq_false] at *)
          all_goals first
            | exact True.intro
            | omega
            | exact ⟨by first | rfl | exact True.intro, ⟨by decide, by decide, by decide, by decide, by decide, by decide⟩, by omega⟩
            | exact ⟨rfl, by first | rfl | exact True.intro⟩
            | exact ⟨True.intro, True.intro⟩
            | (exfalso; simp_all; done)
            | trace_state
        | true =>
          have hE : acE b = plE (tT b) (bd b) := by unfold acE; rw [if_neg (not_not_intro hT), if_neg h25, if_pos hK]
          have hz := siz_le (tT b)
          have hcn := cnt_le (tT b)
          have h65 : tT b = 65535 → sizeW (rowT (tT b)) = 4 := fun h => by rw [h]; decide
          by_cases hm : ¬ tT b = 65535 ∧ ¬ ((bd b).length : Int) = sizeW (rowT (tT b))
          · have hE2 : acE b = 514 := hE.trans (if_pos hm)
            obtain ⟨n1, n2, n3, n4, n5, n6⟩ := ac_bad (b := b) (by rw [hE2]; decide)
            rw [n1, n2, n2, n3, n3, n3, n4, n5, n5, n6, n1, hE2]
            repeat' (intro t ht; first | (cases t <;> first | (cases ht; done) | ((try simp only [bn_s] at ht); (try simp only [nd_s] at ht); (try (exfalso; first | contradiction | omega)))) | (refine ht ?_ ?_ <;> clear ht) | (refine ht.1 ?_ ?_ <;> clear ht) | (refine ht ?_; clear ht))
            all_goals (try simp only [hT, hI, hR, not_true_eq_false] at *)
            all_goals first
              | exact True.intro
              | omega
              | exact ⟨by first | rfl | exact True.intro, ⟨by decide, by decide, by decide, by decide, by decide, by decide⟩, by omega⟩
              | exact ⟨rfl, by first | rfl | exact True.intro⟩
              | exact ⟨True.intro, True.intro⟩
              | (exfalso; simp_all; done)
              | trace_state
          · have hsz : sizeW (rowT (tT b)) ≤ (bd b).length := by
              by_cases h6 : tT b = 65535
              · have := h65 h6; omega
              · have : ((bd b).length : Int) = sizeW (rowT (tT b)) := Classical.byContradiction fun h => hm ⟨h6, h⟩
                omega
            have hk1 : ¬ getK (rowT (tT b)) (bd b) = 1 := fun h => by have := getK_one h; omega
            by_cases hk0 : getK (rowT (tT b)) (bd b) = 0
            · have hE2 : acE b = askF (tT b) ((getL (rowT (tT b)) (bd b)).getD 0 0) := hE.trans ((if_neg hm).trans (by rw [hk0]; rfl))
              have hl := getL_cnt hbb hk0
              by_cases hf : askF (tT b) ((getL (rowT (tT b)) (bd b)).getD 0 0) = 0
              · obtain ⟨n1, n2, n3, n4, n5, n6⟩ := ac_row (hE2.trans hf) h25
                rw [n1, n2, n2, n3, n3, n3, n4, n5, n5, n6, n1, hE2, hf]
                rcases hL : getL (rowT (tT b)) (bd b) with _ | ⟨u, _ | ⟨w, _ | ⟨w2, r2⟩⟩⟩
                · have hlen : (getL (rowT (tT b)) (bd b)).length = 0 := by rw [hL]; rfl
                  rw [hL] at hl hf
                  repeat' (intro t ht; first | (cases t <;> first | (cases ht; done) | ((try simp only [bn_s] at ht); (try simp only [nd_s] at ht); (try (exfalso; first | contradiction | omega)))) | (refine ht ?_ ?_ <;> clear ht) | (refine ht.1 ?_ ?_ <;> clear ht) | (refine ht ?_; clear ht))
                  all_goals (try simp only [hT, hI, hR, hL, hk0, List.getD_nil, List.length_nil, not_true_eq_false] at *)
                  all_goals first
                    | exact True.intro
                    | omega
                    | exact ⟨by first | rfl | exact True.intro, ⟨by decide, by decide, by decide, by decide, by decide, by decide⟩, by omega⟩
                    | exact ⟨by omega, by omega⟩
                    | (simp only [List.length_drop]; constructor <;> omega)
                    | exact ⟨rfl, by first | rfl | exact True.intro⟩
                    | exact ⟨True.intro, True.intro⟩
                    | (exfalso; simp only [List.length_cons, List.length_nil] at *; omega)
                    | (exfalso; simp_all; done)
                    | trace_state
                · have hlen : (getL (rowT (tT b)) (bd b)).length = 1 := by rw [hL]; rfl
                  rw [hL] at hl hf
                  repeat' (intro t ht; first | (cases t <;> first | (cases ht; done) | ((try simp only [bn_s] at ht); (try simp only [nd_s] at ht); (try (exfalso; first | contradiction | omega)))) | (refine ht ?_ ?_ <;> clear ht) | (refine ht.1 ?_ ?_ <;> clear ht) | (refine ht ?_; clear ht))
                  all_goals (try simp only [hT, hI, hR, hL, hk0, not_true_eq_false] at *)
                  all_goals first
                    | exact True.intro
                    | omega
                    | exact ⟨by first | rfl | exact True.intro, ⟨by decide, by decide, by decide, by decide, by decide, by decide⟩, by omega⟩
                    | exact ⟨by omega, by omega⟩
                    | (simp only [List.length_drop]; constructor <;> omega)
                    | exact ⟨rfl, by first | rfl | exact True.intro⟩
                    | exact ⟨True.intro, True.intro⟩
                    | (exfalso; simp only [List.length_cons, List.length_nil] at *; omega)
                    | (exfalso; simp_all; done)
                    | trace_state
                · have hlen : (getL (rowT (tT b)) (bd b)).length = 2 := by rw [hL]; rfl
                  rw [hL] at hl hf
                  repeat' (intro t ht; first | (cases t <;> first | (cases ht; done) | ((try simp only [bn_s] at ht); (try simp only [nd_s] at ht); (try (exfalso; first | contradiction | omega)))) | (refine ht ?_ ?_ <;> clear ht) | (refine ht.1 ?_ ?_ <;> clear ht) | (refine ht ?_; clear ht))
                  all_goals (try simp only [hT, hI, hR, hL, hk0, not_true_eq_false] at *)
                  all_goals first
                    | exact True.intro
                    | omega
                    | exact ⟨by first | rfl | exact True.intro, ⟨by decide, by decide, by decide, by decide, by decide, by decide⟩, by omega⟩
                    | exact ⟨by omega, by omega⟩
                    | (simp only [List.length_drop]; constructor <;> omega)
                    | exact ⟨rfl, by first | rfl | exact True.intro⟩
                    | exact ⟨True.intro, True.intro⟩
                    | (exfalso; simp only [List.length_cons, List.length_nil] at *; omega)
                    | (exfalso; simp_all; done)
                    | trace_state
                · rw [hL] at hl; simp only [List.length_cons] at hl; omega
              · obtain ⟨n1, n2, n3, n4, n5, n6⟩ := ac_bad (b := b) (by rw [hE2]; exact hf)
                rw [n1, n2, n2, n3, n3, n3, n4, n5, n5, n6, n1, hE2]
                rcases hL : getL (rowT (tT b)) (bd b) with _ | ⟨u, _ | ⟨w, _ | ⟨w2, r2⟩⟩⟩
                · have hlen : (getL (rowT (tT b)) (bd b)).length = 0 := by rw [hL]; rfl
                  rw [hL] at hl hf
                  repeat' (intro t ht; first | (cases t <;> first | (cases ht; done) | ((try simp only [bn_s] at ht); (try simp only [nd_s] at ht); (try (exfalso; first | contradiction | omega)))) | (refine ht ?_ ?_ <;> clear ht) | (refine ht.1 ?_ ?_ <;> clear ht) | (refine ht ?_; clear ht))
                  all_goals (try simp only [hT, hI, hR, hL, hk0, List.getD_nil, List.length_nil, not_true_eq_false] at *)
                  all_goals first
                    | exact True.intro
                    | omega
                    | exact ⟨by first | rfl | exact True.intro, ⟨by decide, by decide, by decide, by decide, by decide, by decide⟩, by omega⟩
                    | exact ⟨by omega, by omega⟩
                    | exact ⟨rfl, by first | rfl | exact True.intro⟩
                    | exact ⟨True.intro, True.intro⟩
                    | (exfalso; simp only [List.length_cons, List.length_nil] at *; omega)
                    | (exfalso; simp_all; done)
                    | trace_state
                · have hlen : (getL (rowT (tT b)) (bd b)).length = 1 := by rw [hL]; rfl
                  rw [hL] at hl hf
                  repeat' (intro t ht; first | (cases t <;> first | (cases ht; done) | ((try simp only [bn_s] at ht); (try simp only [nd_s] at ht); (try (exfalso; first | contradiction | omega)))) | (refine ht ?_ ?_ <;> clear ht) | (refine ht.1 ?_ ?_ <;> clear ht) | (refine ht ?_; clear ht))
                  all_goals (try simp only [hT, hI, hR, hL, hk0, not_true_eq_false] at *)
                  all_goals first
                    | exact True.intro
                    | omega
                    | exact ⟨by first | rfl | exact True.intro, ⟨by decide, by decide, by decide, by decide, by decide, by decide⟩, by omega⟩
                    | exact ⟨by omega, by omega⟩
                    | exact ⟨rfl, by first | rfl | exact True.intro⟩
                    | exact ⟨True.intro, True.intro⟩
                    | (exfalso; simp only [List.length_cons, List.length_nil] at *; omega)
                    | (exfalso; simp_all; done)
                    | trace_state
                · have hlen : (getL (rowT (tT b)) (bd b)).length = 2 := by rw [hL]; rfl
                  rw [hL] at hl hf
                  repeat' (intro t ht; first | (cases t <;> first | (cases ht; done) | ((try simp only [bn_s] at ht); (try simp only [nd_s] at ht); (try (exfalso; first | contradiction | omega)))) | (refine ht ?_ ?_ <;> clear ht) | (refine ht.1 ?_ ?_ <;> clear ht) | (refine ht ?_; clear ht))
                  all_goals (try simp only [hT, hI, hR, hL, hk0, not_true_eq_false] at *)
                  all_goals first
                    | exact True.intro
                    | omega
                    | exact ⟨by first | rfl | exact True.intro, ⟨by decide, by decide, by decide, by decide, by decide, by decide⟩, by omega⟩
                    | exact ⟨by omega, by omega⟩
                    | exact ⟨rfl, by first | rfl | exact True.intro⟩
                    | exact ⟨True.intro, True.intro⟩
                    | (exfalso; simp only [List.length_cons, List.length_nil] at *; omega)
                    | (exfalso; simp_all; done)
                    | trace_state
                · rw [hL] at hl; simp only [List.length_cons] at hl; omega
            · have hk2 : getK (rowT (tT b)) (bd b) = 2 := by
                rcases getK_of (rowT (tT b)) (bd b) with h | h | h
                · exact absurd h hk0
                · exact absurd h hk1
                · exact h
              have hE2 : acE b = 518 := hE.trans ((if_neg hm).trans (by rw [hk2]; rfl))
              obtain ⟨n1, n2, n3, n4, n5, n6⟩ := ac_bad (b := b) (by rw [hE2]; decide)
              rw [n1, n2, n2, n3, n3, n3, n4, n5, n5, n6, n1, hE2]
              repeat' (intro t ht; first | (cases t <;> first | (cases ht; done) | ((try simp only [bn_s] at ht); (try simp only [nd_s] at ht); (try (exfalso; first | contradiction | omega)))) | (refine ht ?_ ?_ <;> clear ht) | (refine ht.1 ?_ ?_ <;> clear ht) | (refine ht ?_; clear ht))
              all_goals (try simp only [hT, hI, hR, hk2, not_true_eq_false] at *)
              all_goals first
                | exact True.intro
                | omega
                | exact ⟨by first | rfl | exact True.intro, ⟨by decide, by decide, by decide, by decide, by decide, by decide⟩, by omega⟩
                | exact ⟨rfl, by first | rfl | exact True.intro⟩
                | exact ⟨True.intro, True.intro⟩
                | (exfalso; simp_all; done)
                | trace_state
    · have hE : acE b = tlE b 8 8 514 := by unfold acE; rw [if_pos hT]
      obtain ⟨n1, n2, n3, n4, n5, n6⟩ := ac_bad (b := b) (by rw [hE]; exact hT)
      rw [n1, n2, n2, n3, n3, n3, n4, n5, n5, n6, n1, hE]
      repeat' (intro t ht; first | (cases t <;> first | (cases ht; done) | ((try simp only [bn_s] at ht); (try simp only [nd_s] at ht); (try (exfalso; first | contradiction | omega)))) | (refine ht ?_ ?_ <;> clear ht) | (refine ht.1 ?_ ?_ <;> clear ht) | (refine ht ?_; clear ht))
      all_goals first
        | exact True.intro
        | exact ⟨by first | rfl | exact True.intro, ⟨by decide, by decide, by decide, by decide, by decide, by decide⟩, by omega⟩
        | exact ⟨rfl, by first | rfl | exact True.intro⟩
        | trace_state
  · cases e
end Go.Eng
namespace Go.Eng
open Go.Proofs
set_option linter.unusedVariables false
set_option linter.unusedSimpArgs false
set_option maxRecDepth 100000
set_option maxHeartbeats 1000000
theorem bodyA_ref {q a b c f : Int} {h : Bool} {x : Int} {v m d : List Int} (hr : rightA (rightO c f h x v m) q a b c f h x v m d = true) : bodyA q a b (encO c f h x v m) d = bodyA q a b (refB c f h x v m) d := by
  by_cases h25 : q = 25
  · obtain ⟨_, _, _, _, _, _, hR⟩ := rightA_25 h25 hr
    rw [enc_law hR]
  · unfold bodyA; rw [if_neg h25, if_neg h25]
theorem rightA_type {R : Bool} {q a b c f : Int} {h : Bool} {x : Int} {v m d : List Int} (hr : rightA R q a b c f h x v m d = true) : 0 ≤ q ∧ q ≤ 65535 := by
  by_cases h25 : q = 25
  · omega
  · exact type_le (.inl (rightA_row h25 hr).1)
theorem sameO_has {c f : Int} {h : Bool} {x : Int} {v m : List Int} (hs : sameO c f h x v m 0 0 false 0 [] [] = true) : h = false := by
  cases h with
  | false => rfl
  | true => unfold sameO at hs; simp at hs
def ir_r12_body : IR :=
(.seq
(.keep [0]
(.reg (oD 1 (.boxv (.t 0)) ::
oD 2 (.mov (.c (.imm (.int .u8) []))) ::
oD 3 (.mov cF) ::
[])))
(.seq
(.reg (oD 13 (.build [.int .i64 0, .int .i64 0, .kb false, .int .u64 0, .imm (.int .u8) [], .imm (.int .u8) []] []) ::
oD 4 (.box [.int .i64 0, .int .i64 0, .kb false, .int .u64 0, .imm (.int .u8) [], .imm (.int .u8) []]) ::
oN (.store 6 (.t 4) (.t 13)) ::
[]))
(.seq
(.seq
(.reg (oD 14 (.fieldAddr 0 (.t 1)) ::
oL 15 14 ::
oD 16 (.bin .eql (.t 15) (cI 25)) ::
[]))
(.cond (.t 16)
(.seq
(.keep [1]
(.reg (oD 17 (.fieldAddr 3 (.t 1)) ::
oD 18 (.load (some 6) (.t 17)) ::
oD 5 (.box [.int .i64 0, .int .i64 0, .kb false, .int .u64 0, .imm (.int .u8) [], .imm (.int .u8) []]) ::
oN (.store 6 (.t 5) (.t 18)) ::
[])))
(.seq
(.keep [1, 5]
(.reg (oD 19 (.fieldAddr 1 (.t 1)) ::
oL 20 19 ::
oD 21 (.bin .eql (.t 20) (.c (.int .u64 0))) ::
oM 22 21 ::
oT 22 23 (.fieldAddr 2 (.t 1)) ::
oT 22 24 (.load none (.t 23)) ::
oT 22 25 (.bin .eql (.t 24) (.c (.int .u64 0))) ::
oD 26 (.pick (.t 22) (.t 25) cF) ::
oM 27 26 ::
oT 27 28 (.fieldAddr 9 (.t 1)) ::
oT 27 29 (.load none (.t 28)) ::
oT 27 30 (.len (.t 29)) ::
oT 27 31 (.bin .eql (.t 30) (cI 0)) ::
oD 32 (.pick (.t 27) (.t 31) cF) ::
oM 33 32 ::
oT 33 34 (.fieldAddr 0 (.t 5)) ::
oT 33 35 (.load none (.t 34)) ::
oT 33 36 (.bin .eql (.t 35) (cI 32768)) ::
oD 37 (.pick (.t 33) (.t 36) cF) ::
oM 38 37 ::
oT 38 39 (.fieldAddr 2 (.t 5)) ::
oT 38 40 (.load none (.t 39)) ::
oT 38 41 (.un .not (.t 40)) ::
oD 42 (.pick (.t 38) (.t 41) cF) ::
oM 43 42 ::
oT 43 44 (.fieldAddr 1 (.t 5)) ::
oT 43 45 (.load none (.t 44)) ::
oT 43 46 (.call false (.f 237) [(.t 45)]) ::
oD 47 (.pick (.t 43) (.t 46) cF) ::
oM 48 47 ::
oT 48 49 (.load (some 6) (.t 5)) ::
oT 48 50 (.call false (.f 209) [(.t 49)]) ::
oD 51 (.pick (.t 48) (.t 50) cF) ::
oM 6 51 ::
[])))
(.seq
(.seq
(.keep [5, 6]
(.reg (oM 52 6 ::
oD 53 (.un .not (.t 52)) ::
[])))
(.cond (.t 53)
(.seq
(.reg (oD 2 (.mov (.c (.imm (.int .u8) []))) ::
oD 3 (.mov cF) ::
[]))
.ret)
.skip))
(.seq
(.reg (oD 54 (.load (some 6) (.t 5)) ::
oD 55 (.call false (.f 210) [(.t 54)]) ::
oM 7 55 ::
[]))
(.seq
(.block 0
(.loop
(.seq
(.seq
(.keep [7]
(.reg (oM 56 7 ::
oD 57 (.len (.t 56)) ::
oD 58 (.bin .rem (.t 57) (cI 8)) ::
oD 59 (.bin .neq (.t 58) (cI 4)) ::
[])))
(.cond (.t 59)
.skip
(.exit 0)))
(.block 1
(.reg (oM 60 7 ::
oD 61 (.sliceAll (.int .u8) 1 [(0, 1, (.c (.int .u8 0)))]) ::
oD 62 (.append (.int .u8) 1 (.t 60) (.t 61)) ::
oM 7 62 ::
[]))))))
(.seq
(.keep [7]
(.reg (oM 63 7 ::
oM 2 63 ::
oD 3 (.mov cT) ::
[])))
.ret))))))
.skip))
(.seq
(.keep [1, 4]
(.reg (oD 65 (.fieldAddr 0 (.t 1)) ::
oL 66 65 ::
oD 67 (.call false (.f 198) [(.t 66)]) ::
oM 64 67 ::
oD 68 (.extract (.t 64) 0) ::
oD 69 (.extract (.t 64) 1) ::
oM 8 68 ::
oM 9 69 ::
[])))
(.seq
(.seq
(.keep [1, 4, 8, 9]
(.reg (oM 70 9 ::
oD 71 (.un .not (.t 70)) ::
oM 72 71 ::
oF 72 73 (.fieldAddr 3 (.t 1)) ::
oF 72 74 (.load (some 6) (.t 73)) ::
oF 72 75 (.load (some 6) (.t 4)) ::
oF 72 76 (.call false (.f 164) [(.t 74), (.t 75)]) ::
oF 72 77 (.un .not (.t 76)) ::
oD 78 (.pick (.t 72) cT (.t 77)) ::
oM 79 78 ::
oF 79 80 (.fieldAddr 3 (.t 1)) ::
oF 79 81 (.fieldAddr 2 (.t 80)) ::
oF 79 82 (.load none (.t 81)) ::
oD 83 (.pick (.t 79) cT (.t 82)) ::
oM 84 83 ::
oF 84 85 (.fieldAddr 0 (.t 1)) ::
oF 84 86 (.load none (.t 85)) ::
oF 84 87 (.fieldAddr 1 (.t 1)) ::
oF 84 88 (.load none (.t 87)) ::
oF 84 89 (.call false (.f 199) [(.t 86), (.t 88)]) ::
oF 84 90 (.bin .neq (.t 89) (cI 0)) ::
oD 91 (.pick (.t 84) cT (.t 90)) ::
[])))
(.cond (.t 91)
(.seq
(.keep []
(.reg (oD 2 (.mov (.c (.imm (.int .u8) []))) ::
oD 3 (.mov cF) ::
[])))
.ret)
.skip))
(.seq
(.keep [1, 8]
(.reg (oD 92 (.load (some 10) (.t 1)) ::
oM 93 8 ::
oD 94 (.call false (.f 243) [(.t 92), (.t 93)]) ::
oM 10 94 ::
[])))
(.seq
(.keep [1, 8, 10]
(.reg (oM 96 8 ::
oM 97 10 ::
oD 98 (.call false (.f 59) [(.t 96), (.t 97)]) ::
oM 95 98 ::
oD 99 (.extract (.t 95) 0) ::
oD 100 (.extract (.t 95) 1) ::
oM 11 99 ::
oM 12 100 ::
[])))
(.seq
(.seq
(.keep [1, 10, 11, 12]
(.reg (oM 101 12 ::
oD 102 (.un .not (.t 101)) ::
oM 103 102 ::
oF 103 104 (.mov (.t 10)) ::
oF 103 105 (.len (.t 104)) ::
oF 103 106 (.bin .lss (.t 105) (cI 2)) ::
oF 103 107 (.mov (.t 106)) ::
oT 107 108 (.fieldAddr 2 (.t 1)) ::
oT 107 109 (.load none (.t 108)) ::
oT 107 110 (.bin .neq (.t 109) (.c (.int .u64 0))) ::
oF 103 111 (.pick (.t 107) (.t 110) cF) ::
oD 112 (.pick (.t 103) cT (.t 111)) ::
oM 113 112 ::
oF 113 114 (.mov (.t 10)) ::
oF 113 115 (.len (.t 114)) ::
oF 113 116 (.bin .lss (.t 115) (cI 1)) ::
oF 113 117 (.mov (.t 116)) ::
oT 117 118 (.fieldAddr 1 (.t 1)) ::
oT 117 119 (.load none (.t 118)) ::
oT 117 120 (.bin .neq (.t 119) (.c (.int .u64 0))) ::
oF 113 121 (.pick (.t 117) (.t 120) cF) ::
oD 122 (.pick (.t 113) cT (.t 121)) ::
oM 123 122 ::
oF 123 124 (.fieldAddr 0 (.t 1)) ::
oF 123 125 (.load none (.t 124)) ::
oF 123 126 (.bin .neq (.t 125) (cI 65535)) ::
oF 123 127 (.mov (.t 126)) ::
oT 127 128 (.fieldAddr 9 (.t 1)) ::
oT 127 129 (.load none (.t 128)) ::
oT 127 130 (.len (.t 129)) ::
oT 127 131 (.bin .gtr (.t 130) (cI 0)) ::
oF 123 132 (.pick (.t 127) (.t 131) cF) ::
oD 133 (.pick (.t 123) cT (.t 132)) ::
oM 134 133 ::
oF 134 135 (.fieldAddr 9 (.t 1)) ::
oF 134 136 (.load none (.t 135)) ::
oF 134 137 (.len (.t 136)) ::
oF 134 138 (.bin .rem (.t 137) (cI 8)) ::
oF 134 139 (.bin .neq (.t 138) (cI 0)) ::
oD 140 (.pick (.t 134) cT (.t 139)) ::
oM 141 140 ::
oF 141 142 (.fieldAddr 9 (.t 1)) ::
oF 141 143 (.load none (.t 142)) ::
oF 141 144 (.len (.t 143)) ::
oF 141 145 (.bin .gtr (.t 144) (cI 65520)) ::
oD 146 (.pick (.t 141) cT (.t 145)) ::
[])))
(.cond (.t 146)
(.seq
(.keep []
(.reg (oD 2 (.mov (.c (.imm (.int .u8) []))) ::
oD 3 (.mov cF) ::
[])))
.ret)
.skip))
(.seq
(.keep [1, 11]
(.reg (oM 147 11 ::
oD 148 (.fieldAddr 9 (.t 1)) ::
oL 149 148 ::
oD 150 (.append (.int .u8) 1 (.t 147) (.t 149)) ::
oM 2 150 ::
oD 3 (.mov cT) ::
[])))
.ret)))))))))
def rd_r12_body : List RD := [.tmp 2 true (some (.int .u8)), .tmp 3 true none]
theorem ok_r12_body : fnOk Tryz.prog Tryz.f203 ir_r12_body rd_r12_body = true := by kernel_rfl
def S_r12_body : List AV → List Obj → Option (Prop × AV)
  | [.agg [.int .i64 q, .int .u64 a, .int .u64 b, .int .i64 c, .int .i64 f, .bool h, .int .u64 x, .imm (.int .u8) v, .imm (.int .u8) m, .imm (.int .u8) d]], [] => some ((v.length ≤ 100000 ∧ m.length ≤ 100000 ∧ d.length ≤ 100000, .tup [.imm (.int .u8) (if rightA (refR c f h x v m) q a b c f h x v m d = true then bodyA q a b (refB c f h x v m) d else []), .bool (rightA (refR c f h x v m) q a b c f h x v m d)]))
  | _, _ => none
theorem snd_r12_body : SoundS Tryz.prog 203 (RoF S_r12_body).sum := by
  refine ro_fn Tryz.func203 ok_r12_body (env_cons (s := RoF S_r07_Settable) snd_r07_Settable (env_cons (s := RoF S_r08_Right) snd_r08_Right (env_cons (s := RwF S_r08_Bytes_k) snd_r08_Bytes_k (env_cons (s := RoF S_r12_row) snd_r12_row (env_cons (s := RoF S_r08_Same) snd_r08_Same (env_cons (s := RoF S_r12_asked) snd_r12_asked (env_cons (s := RoF S_r12_nums) snd_r12_nums (env_cons (s := RwF S_r01_Put_k) snd_r01_Put_k (env_nil _))))))))) fun args objs p v e => ?_
  unfold S_r12_body at e
  split at e
  · rename_i q a b c f h x v m d
    cases e
    refine ⟨rfl, fun hw ho hp => ?_⟩
    change List Int at v
    change List Int at m
    change List Int at d
    have hx0 : 0 ≤ x := ((hw _ (List.mem_cons_self ..)) (.int .u64 x) (by simp)).1
    have hv0 : ∀ z ∈ (v : List Int), (0 : Int) ≤ z ∧ z ≤ 255 := fun z hz => ((hw _ (List.mem_cons_self ..)) (.imm (.int .u8) v) (by simp)).1 z hz
    have hm0 : ∀ z ∈ (m : List Int), (0 : Int) ≤ z ∧ z ≤ 255 := fun z hz => ((hw _ (List.mem_cons_self ..)) (.imm (.int .u8) m) (by simp)).1 z hz
    clear hw ho
    have hcn := cnt_le q
    have hsz := siz_le q
    have hRO := right_law (c := c) (f := f) (h := h) hx0 hv0 hm0
    have hcl : ((([a, b].take (countW (rowT q)).toNat).length : Nat) : Int) = countW (rowT q) := by rw [List.length_take]; simp only [List.length_cons, List.length_nil]; omega
    have hpl : ([a, b].take (countW (rowT q)).toNat).length = (countW (rowT q)).toNat := by rw [List.length_take]; simp only [List.length_cons, List.length_nil]; omega
    by_cases h25 : q = 25
    · have hR : rightA (refR c f h x v m) q a b c f h x v m d = (decide (a = 0) && decide (b = 0) && decide (d.length = 0) && (decide (c = 32768) && !h && settF f && refR c f h x v m)) := if_pos h25
      cases hr : rightA (refR c f h x v m) q a b c f h x v m d with
      | false =>
        rw [hR] at hr
        repeat' (intro t ht; first | (cases t <;> first | (cases ht; done) | ((try simp only [bn_s] at ht); (try simp only [nd_s] at ht); (try (exfalso; first | contradiction | omega)))) | (refine ht ?_ ?_ <;> clear ht) | (refine ht.1 ?_ ?_ <;> clear ht) | (refine ht ?_; clear ht))
        all_goals first
          | exact True.intro
          | exact hp
          | exact ⟨hp.1, hp.2.1⟩
          | omega
          | exact ⟨rfl, by first | rfl | exact True.intro⟩
          | (exfalso; simp_all; done)
          | trace_state
      | true =>
        obtain ⟨ha, hb, hd, hc, hh, hs, hRr⟩ := rightA_25 h25 hr
        have hBB : bodyA q a b (refB c f h x v m) d = refB c f h x v m ++ List.replicate ((8 - (4 + (refB c f h x v m).length) % 8) % 8) 0 := if_pos h25
        have hn := right_nums (hRO.trans hRr)
        have hsL := (sizeO_right (hRO.trans hRr)).2
        rw [enc_law (hRO.trans hRr)] at hsL
        repeat' (intro t ht; first | (cases t <;> first | (cases ht; done) | ((try simp only [bn_s] at ht); (try simp only [nd_s] at ht); (try (exfalso; first | contradiction | omega)))) | (refine ht ?_ ?_ <;> clear ht) | (refine ht.1 ?_ ?_ <;> clear ht) | (refine ht ?_; clear ht))
        all_goals first
          | exact True.intro
          | exact ⟨hp.1, hp.2.1⟩
          | exact ⟨hn.1, hn.2.1, by omega, by omega, by omega, by omega⟩
          | omega
          | (exfalso; simp_all; done)
          | (intro r h1 h2; clear h1; refine h2 ⟨[7], Nat, (fun i => i ≤ (8 - (4 + (refB c f h x v m).length) % 8) % 8), fun _ => [.own 0], fun i => [.row false (.int .u8) (refB c f h x v m ++ List.replicate i 0)], fun i => 8 - i, ⟨0, Nat.zero_le _, rfl, congrArg (fun l => [Obj.row false (.int .u8) l]) (List.append_nil _).symm⟩, ?_⟩; clear h2)
          | trace_state
        rintro i hi
        (try dsimp only at hi)
        have hlen : (refB c f h x v m ++ List.replicate i (0 : Int)).length = (refB c f h x v m).length + i := by rw [List.length_append, List.length_replicate]
        repeat' (intro t ht; first | (cases t <;> first | (cases ht; done) | ((try simp only [bn_s] at ht); (try simp only [nd_s] at ht))) | (refine ht ?_ ?_ <;> clear ht) | (refine ht.1 ?_ ?_ <;> clear ht) | (refine ht ?_; clear ht))
        all_goals (try simp only [hlen, tmod_nn (Int.natCast_nonneg _)] at *)
        all_goals first
          | exact True.intro
          | omega
          | ((try simp only [nd_s, bn_s, mm_s] at *); omega)
          | (refine ⟨i + 1, ?_, ?_, rfl, ?_⟩
             · (try dsimp only); omega
             · (try dsimp only); omega
             · simp only [cast_rfl, List.replicate_succ', List.append_assoc])
          | (simp only [List.length_cons, List.length_nil]; constructor <;> omega)
          | (refine ⟨?_, by first | rfl | exact True.intro⟩; rw [hBB, show i = (8 - (4 + (refB c f h x v m).length) % 8) % 8 by omega]; rfl)
          | trace_state
    · have hR : rightA (refR c f h x v m) q a b c f h x v m d = (rowK q && sameO c f h x v m 0 0 false 0 [] [] && decide (askF q a = 0) && putK (rowT q) ([a, b].take (countW (rowT q)).toNat) && (decide (2 ≤ countW (rowT q)) || decide (b = 0)) && (decide (1 ≤ countW (rowT q)) || decide (a = 0)) && (if q = 65535 then decide ((d.length : Int).tmod 8 = 0) && decide ((d.length : Int) ≤ 65520) else decide (d.length = 0))) := if_neg h25
      cases hr : rightA (refR c f h x v m) q a b c f h x v m d with
      | false =>
        rw [hR] at hr
        repeat' (intro t ht; first | (cases t <;> first | (cases ht; done) | ((try simp only [bn_s] at ht); (try simp only [nd_s] at ht); (try (exfalso; first | contradiction | omega)))) | (refine ht ?_ ?_ <;> clear ht) | (refine ht.1 ?_ ?_ <;> clear ht) | (refine ht ?_; clear ht))
        all_goals first
          | exact True.intro
          | exact hp
          | exact ⟨hp.1, hp.2.1⟩
          | exact hcn
          | omega
          | exact ⟨rfl, by first | rfl | exact True.intro⟩
          | (exfalso
             simp only [hcl] at *
             refine absurd ?_ (Bool.eq_false_iff.1 hr)
             simp only [Bool.and_eq_true, Bool.or_eq_true, decide_eq_true_eq]
             refine ⟨⟨⟨⟨⟨⟨by assumption, by assumption⟩, by assumption⟩, by assumption⟩, by omega⟩, by omega⟩, ?_⟩
             first
               | (rw [if_pos (by assumption)]; simp only [Bool.and_eq_true, decide_eq_true_eq]; exact ⟨by assumption, by omega⟩)
               | (rw [if_neg (by assumption)]; simp only [decide_eq_true_eq]; omega))
          | trace_state
      | true =>
        obtain ⟨k1, k2, k3, k4, k5, k6, k7⟩ := rightA_row h25 hr
        unfold numsA at k4
        have hh := sameO_has k2
        have hB : bodyA q a b (refB c f h x v m) d = putB (rowT q) ([a, b].take (countW (rowT q)).toNat) ++ d := if_neg h25
        have hps := putB_size k4
        repeat' (intro t ht; first | (cases t <;> first | (cases ht; done) | ((try simp only [bn_s] at ht); (try simp only [nd_s] at ht); (try (exfalso; first | contradiction | omega)))) | (refine ht ?_ ?_ <;> clear ht) | (refine ht.1 ?_ ?_ <;> clear ht) | (refine ht ?_; clear ht))
        all_goals first
          | exact True.intro
          | exact hp
          | exact ⟨hp.1, hp.2.1⟩
          | exact hcn
          | omega
          | (constructor <;> omega)
          | (simp only [cast_rfl]; constructor <;> omega)
          | (refine ⟨?_, by first | rfl | exact True.intro⟩; rw [hB]; rfl)
          | (exfalso; simp_all; done)
          | (exfalso; simp_all; omega)
          | trace_state
  · cases e
def ir_r12_Encode : IR :=
(.seq
(.keep [0]
(.reg (oD 1 (.boxv (.t 0)) ::
oD 2 (.mov (.c (.imm (.int .u8) []))) ::
oD 3 (.mov (cI 0)) ::
[])))
(.seq
(.keep [1]
(.reg (oD 7 (.load (some 10) (.t 1)) ::
oD 8 (.call false (.f 203) [(.t 7)]) ::
oM 6 8 ::
oD 9 (.extract (.t 6) 0) ::
oD 10 (.extract (.t 6) 1) ::
oM 4 9 ::
oM 5 10 ::
[])))
(.seq
(.seq
(.keep [1, 4, 5]
(.reg (oM 11 5 ::
oD 12 (.un .not (.t 11)) ::
[])))
(.cond (.t 12)
(.seq
(.reg (oD 2 (.mov (.c (.imm (.int .u8) []))) ::
oD 3 (.mov (cI 10001)) ::
[]))
.ret)
.skip))
(.seq
(.keep [1, 4]
(.reg (oD 13 (.fieldAddr 0 (.t 1)) ::
oL 14 13 ::
oD 15 (.conv .u64 (.t 14)) ::
oD 16 (.call false (.f 98) [(.t 15), (cI 2)]) ::
oM 17 4 ::
oD 18 (.len (.t 17)) ::
oD 19 (.bin .add (cI 4) (.t 18)) ::
oD 20 (.conv .u64 (.t 19)) ::
oD 21 (.call false (.f 98) [(.t 20), (cI 2)]) ::
oD 22 (.append (.int .u8) 1 (.t 16) (.t 21)) ::
oM 23 4 ::
oD 24 (.append (.int .u8) 1 (.t 22) (.t 23)) ::
oM 2 24 ::
oD 3 (.mov (cI 0)) ::
[])))
.ret))))
def rd_r12_Encode : List RD := [.tmp 2 true (some (.int .u8)), .tmp 3 true none]
theorem ok_r12_Encode : fnOk Tryz.prog Tryz.f141 ir_r12_Encode rd_r12_Encode = true := by kernel_rfl
def S_r12_Encode : List AV → List Obj → Option (Prop × AV)
  | [.agg [.int .i64 q, .int .u64 a, .int .u64 b, .int .i64 c, .int .i64 f, .bool h, .int .u64 x, .imm (.int .u8) v, .imm (.int .u8) m, .imm (.int .u8) d]], [] => some ((v.length ≤ 100000 ∧ m.length ≤ 100000 ∧ d.length ≤ 100000, .tup [.imm (.int .u8) (if rightA (refR c f h x v m) q a b c f h x v m d = true then encA q a b (refB c f h x v m) d else []), .int .i64 (if rightA (refR c f h x v m) q a b c f h x v m d = true then 0 else 10001)]))
  | _, _ => none
theorem snd_r12_Encode : SoundS Tryz.prog 141 (RoF S_r12_Encode).sum := by
  refine ro_fn Tryz.func141 ok_r12_Encode (env_cons (s := RoF S_r12_body) snd_r12_body (env_cons (s := RwF S_r01_Num) snd_r01_Num (env_nil _))) fun args objs p v e => ?_
  unfold S_r12_Encode at e
  split at e
  · rename_i q a b c f h x v m d
    cases e
    refine ⟨rfl, fun hw ho hp => ?_⟩
    change List Int at v
    change List Int at m
    change List Int at d
    have hx0 : 0 ≤ x := ((hw _ (List.mem_cons_self ..)) (.int .u64 x) (by simp)).1
    have hv0 : ∀ z ∈ (v : List Int), (0 : Int) ≤ z ∧ z ≤ 255 := fun z hz => ((hw _ (List.mem_cons_self ..)) (.imm (.int .u8) v) (by simp)).1 z hz
    have hm0 : ∀ z ∈ (m : List Int), (0 : Int) ≤ z ∧ z ≤ 255 := fun z hz => ((hw _ (List.mem_cons_self ..)) (.imm (.int .u8) m) (by simp)).1 z hz
    clear hw ho
    have hRA := rightA_ref (q := q) (a := a) (b := b) (c := c) (f := f) (h := h) (d := d) hx0 hv0 hm0
    cases hr : rightA (refR c f h x v m) q a b c f h x v m d with
    | false =>
      repeat' (intro t ht; first | (cases t <;> first | (cases ht; done) | ((try simp only [bn_s] at ht); (try simp only [nd_s] at ht); (try (exfalso; first | contradiction | omega)))) | (refine ht ?_ ?_ <;> clear ht) | (refine ht.1 ?_ ?_ <;> clear ht) | (refine ht ?_; clear ht))
      all_goals first
        | exact True.intro
        | exact hp
        | exact ⟨rfl, by first | rfl | exact True.intro⟩
        | (exfalso; simp_all; done)
        | trace_state
    | true =>
      have hro := hRA.trans hr
      obtain ⟨_, s1, _, _⟩ := sizeA_len hro
      rw [bodyA_ref hro] at s1
      have hq := rightA_type hr
      have l2 := bytesN_len (n := q) (w := 2) (by decide)
      have l3 := bytesN_len (n := (4 + (bodyA q a b (refB c f h x v m) d).length)) (w := 2) (by decide)
      repeat' (intro t ht; first | (cases t <;> first | (cases ht; done) | ((try simp only [bn_s] at ht); (try simp only [nd_s] at ht); (try (exfalso; first | contradiction | omega)))) | (refine ht ?_ ?_ <;> clear ht) | (refine ht.1 ?_ ?_ <;> clear ht) | (refine ht ?_; clear ht))
      all_goals (try simp only [hr, if_true, cast_rfl] at *)
      all_goals first
        | exact True.intro
        | exact hp
        | omega
        | ((try simp only [nd_s, bn_s, mm_s] at *); omega)
        | (constructor <;> omega)
        | (simp only [List.length_append]; constructor <;> omega)
        | exact ⟨rfl, by first | rfl | exact True.intro⟩
        | (exfalso; simp_all; done)
        | trace_state
  · cases e
end Go.Eng
