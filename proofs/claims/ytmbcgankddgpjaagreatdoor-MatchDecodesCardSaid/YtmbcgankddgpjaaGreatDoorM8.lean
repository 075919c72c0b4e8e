/- Contracts of functions of the given program, told by plain Lean functions. No condition. -/
import Derived.Test.YtmbcgankddgpjaaGreatDoorProg
import Derived.Test.YtmbcgankddgpjaaGreatDoorEArg
import Derived.KernelRfl
import Derived.Test.YtmbcgankddgpjaaGreatDoorM7
import Derived.Test.YtmbcgankddgpjaaGreatDoorOA
namespace Go.Eng
open Go.Proofs
set_option linter.unusedVariables false
set_option linter.unusedSimpArgs false
set_option maxRecDepth 100000
set_option maxHeartbeats 1000000
def mtL (b : List Int) (p e : Int) : List OV := if e = 0 then mdL (b.drop p.toNat) else []
def mtP (b : List Int) (p e : Int) : Int := if e = 0 then p + mdN (b.drop p.toNat) else p
def mtE (b : List Int) (p e : Int) : Int := if e = 0 then mdE (b.drop p.toNat) else e
theorem mdN_le (b : List Int) (hb : ∀ x ∈ b, 0 ≤ x ∧ x ≤ 255) : 0 ≤ mdN b ∧ mdN b ≤ b.length := by
  have hn2 : 0 ≤ tN b ∧ tN b ≤ 65535 := num2_le (a := 2) hb
  have hz := pz_le hn2.1
  unfold mdN; split
  · rename_i h
    unfold mdE at h
    split at h
    · cases h
    · split at h
      · cases h
      · split at h
        · cases h
        · omega
  · omega
def ir_match_Take : IR :=
(.seq
(.keep [0]
(.reg (oD 2 (.mov (.c (.imm (.cons (.int .i64) (.cons (.int .i64) (.cons .bool (.cons (.int .u64) (.cons (.sl (.int .u8)) (.cons (.sl (.int .u8)) .nil)))))) []))) ::
[])))
(.seq
(.seq
(.reg (oM 7 0 ::
oD 8 (.call false (.f 32) [(.t 7)]) ::
oD 9 (.bin .neq (.t 8) (cI 0)) ::
[]))
(.cond (.t 9)
(.seq
(.reg (oD 2 (.mov (.c (.imm (.cons (.int .i64) (.cons (.int .i64) (.cons .bool (.cons (.int .u64) (.cons (.sl (.int .u8)) (.cons (.sl (.int .u8)) .nil)))))) []))) ::
[]))
.ret)
.skip))
(.seq
(.reg (oM 10 0 ::
oD 11 (.call false (.f 90) [(.t 10)]) ::
oM 3 11 ::
[]))
(.seq
(.keep [0, 3]
(.reg (oM 13 3 ::
oD 14 (.call false (.f 26) [(.t 13)]) ::
oM 12 14 ::
oD 15 (.extract (.t 12) 0) ::
oD 16 (.extract (.t 12) 1) ::
oD 17 (.extract (.t 12) 2) ::
oM 4 15 ::
oM 5 16 ::
oM 6 17 ::
[])))
(.seq
(.keep [0, 4, 5, 6]
(.reg (oM 18 0 ::
oM 19 6 ::
oD 20 (.call false (.f 91) [(.t 18), (.t 19)]) ::
[])))
(.seq
(.reg (oM 21 0 ::
oM 22 5 ::
oD 23 (.call false (.f 29) [(.t 21), (.t 22)]) ::
[]))
(.seq
(.reg (oM 24 4 ::
oM 2 24 ::
[]))
.ret)))))))
def rd_match_Take : List RD := [.tmp 2 true (some (.cons (.int .i64) (.cons (.int .i64) (.cons .bool (.cons (.int .u64) (.cons (.sl (.int .u8)) (.cons (.sl (.int .u8)) .nil)))))))]
theorem ok_match_Take : fnOk Tryz.prog Tryz.f30 ir_match_Take rd_match_Take = true := by kernel_rfl
def S_match_Take : List AV → List Obj → Option (Prop × AV × List Obj)
  | [.ptr 0 0], [.box [.imm (.int .u8) b, .int .i64 p, .int .i64 sh, .int .i64 od, .int .i64 e, .bool true]] => some ((0 ≤ p ∧ p ≤ b.length ∧ b.length ≤ 100000000 ∧ sh ≠ 0, .imm (.cons (.int .i64) (.cons (.int .i64) (.cons .bool (.cons (.int .u64) (.cons (.sl (.int .u8)) (.cons (.sl (.int .u8)) .nil)))))) (mtL b p e), [.box [.imm (.int .u8) b, .int .i64 (mtP b p e), .int .i64 sh, .int .i64 od, .int .i64 (mtE b p e), .bool true]]))
  | _, _ => none
theorem snd_match_Take : SoundS Tryz.prog 30 (RwF S_match_Take).sum := by
  refine rw_fn Tryz.func30 ok_match_Take (env_cons (s := RoF S_cursor_Cursor_Err) snd_cursor_Cursor_Err (env_cons (s := RoF S_cursor_Cursor_Look) snd_cursor_Cursor_Look (env_cons (s := RoF S_match_Decode) snd_match_Decode (env_cons (s := RwF S_cursor_Cursor_Fail) snd_cursor_Cursor_Fail (env_cons (s := RwF S_cursor_Cursor_Bytes) snd_cursor_Cursor_Bytes (env_nil _)))))) fun args objs p v o e => ?_
  unfold S_match_Take at e
  split at e
  · rename_i b p sh od e
    cases e
    refine ⟨rfl, fun hw ho hp => ?_⟩
    change List Int at b
    have hb : ∀ x ∈ (b : List Int), (0 : Int) ≤ x ∧ x ≤ 255 := fun x hx => ((ho _ (List.mem_cons_self ..)) (.imm (.int .u8) b) (by simp)).1 x hx
    clear hw ho
    obtain ⟨h1, h2, h3, h4⟩ := hp
    have hbd : ∀ x ∈ b.drop p.toNat, (0 : Int) ≤ x ∧ x ≤ 255 := fun x hx => hb x (List.mem_of_mem_drop hx)
    have hN := mdN_le _ hbd
    have hl : (b.drop p.toNat).length = b.length - p.toNat := List.length_drop
    by_cases he : e = 0
    · subst he
      have f0 : ∀ x, failE 0 x = x := fun x => if_pos rfl
      have hT : takeP (mdN (b.drop p.toNat)) b p sh (mdE (b.drop p.toNat)) = p + mdN (b.drop p.toNat) ∧ takeE (mdN (b.drop p.toNat)) b p sh (mdE (b.drop p.toNat)) = mdE (b.drop p.toNat) := by
        have hE : takeE (mdN (b.drop p.toNat)) b p sh (mdE (b.drop p.toNat)) = mdE (b.drop p.toNat) := by
          unfold takeE; rw [if_neg (by omega), if_neg (by omega)]
        refine ⟨?_, hE⟩
        unfold takeP; rw [hE]
        by_cases h0 : mdE (b.drop p.toNat) = 0
        · rw [if_pos h0]
        · rw [if_neg h0, (md_bad rfl h0).2]; omega
      repeat' (intro t ht; first | (cases t <;> first | (cases ht; done) | ((try simp only [bn_s] at ht); (try simp only [nd_s] at ht); (try (exfalso; first | contradiction | omega)))) | (refine ht ?_ ?_ <;> clear ht) | (refine ht.1 ?_ ?_ <;> clear ht) | (refine ht ?_; clear ht))
      all_goals (try simp only [if_true, f0, hT] at *)
      all_goals first
        | exact True.intro
        | exact ⟨h1, h2, by omega, h4⟩
        | exact ⟨h1, h2, by omega⟩
        | omega
        | (unfold mtL mtP mtE; exact ⟨rfl, by first | rfl | exact True.intro⟩)
        | (exfalso; simp_all; done)
        | trace_state
    · repeat' (intro t ht; first | (cases t <;> first | (cases ht; done) | ((try simp only [bn_s] at ht); (try simp only [nd_s] at ht); (try (exfalso; first | contradiction | omega)))) | (refine ht ?_ ?_ <;> clear ht) | (refine ht.1 ?_ ?_ <;> clear ht) | (refine ht ?_; clear ht))
      all_goals first
        | exact True.intro
        | (unfold mtL mtP mtE; rw [if_neg he, if_neg he, if_neg he]; exact ⟨rfl, by first | rfl | exact True.intro⟩)
        | (exfalso; simp_all; done)
        | trace_state
  · cases e
theorem vR_eq {y : List Int} (h : rE y = 0) : ((rI y (decC y), rI y (decF y), (if rE y = 0 then decH y else false), rI y (decX y), rR y (decV y), rR y (decM y), ()) : OV) = vO y := by
  unfold rI rR vO; simp only [if_pos h]
theorem zT_step {b : List Int} {i m : Nat} (h : i < b.length) (hm : 0 < m) : zeroL ((b.drop i).take m) = (decide (b.getD i 0 = 0) && zeroL ((b.drop (i + 1)).take (m - 1))) := by
  obtain ⟨k, rfl⟩ : ∃ k, m = k + 1 := ⟨m - 1, by omega⟩
  rw [drop_step h 0, List.take_succ_cons]; rfl
theorem md_in {b : List Int} (h4 : ¬ b.length < 4) (ht : tT b = 1) (hr : ¬ (tN b < 4 ∨ 65528 < tN b ∨ b.length < tN b + pz (tN b))) : mdE b = if ¬ (mlG [] (bd b)).2 = 0 then (mlG [] (bd b)).2 else if mdZ b = true then 0 else 1026 := by
  unfold mdE; rw [if_neg h4, if_neg (not_not_intro ht), if_neg hr]
theorem md_list {b : List Int} {e : Int} (h4 : ¬ b.length < 4) (ht : tT b = 1) (hr : ¬ (tN b < 4 ∨ 65528 < tN b ∨ b.length < tN b + pz (tN b))) (he : (mlG [] (bd b)).2 = e) (h0 : ¬ e = 0) : mdE b = e ∧ mdL b = [] ∧ mdN b = 0 := by
  have h := md_in h4 ht hr
  rw [he, if_pos h0] at h
  exact ⟨h, md_bad h h0⟩
def ir_r10_Decode : IR :=
(.seq
(.keep [0]
(.reg (oD 2 (.nilrow (.cons (.int .i64) (.cons (.int .i64) (.cons .bool (.cons (.int .u64) (.cons (.sl (.int .u8)) (.cons (.sl (.int .u8)) .nil))))))) ::
oD 3 (.mov (cI 0)) ::
oD 4 (.mov (cI 0)) ::
[])))
(.seq
(.seq
(.reg (oM 14 0 ::
oD 15 (.len (.t 14)) ::
oD 16 (.bin .lss (.t 15) (cI 4)) ::
[]))
(.cond (.t 16)
(.seq
(.keep []
(.reg (oD 2 (.nilrow (.cons (.int .i64) (.cons (.int .i64) (.cons .bool (.cons (.int .u64) (.cons (.sl (.int .u8)) (.cons (.sl (.int .u8)) .nil))))))) ::
oD 3 (.mov (cI 0)) ::
oD 4 (.mov (cI 1026)) ::
[])))
.ret)
.skip))
(.seq
(.seq
(.keep [0]
(.reg (oM 17 0 ::
oD 18 (.slice 1 (.t 17) none (some (cI 2)) none) ::
oD 19 (.call false (.f 85) [(.t 18)]) ::
oD 20 (.bin .neq (.t 19) (.c (.int .u64 1))) ::
[])))
(.cond (.t 20)
(.seq
(.reg (oD 2 (.nilrow (.cons (.int .i64) (.cons (.int .i64) (.cons .bool (.cons (.int .u64) (.cons (.sl (.int .u8)) (.cons (.sl (.int .u8)) .nil))))))) ::
oD 3 (.mov (cI 0)) ::
oD 4 (.mov (cI 1025)) ::
[]))
.ret)
.skip))
(.seq
(.keep [0]
(.reg (oM 21 0 ::
oD 22 (.slice 1 (.t 21) (some (cI 2)) (some (cI 4)) none) ::
oD 23 (.call false (.f 85) [(.t 22)]) ::
oD 24 (.conv .i64 (.t 23)) ::
oM 5 24 ::
[])))
(.seq
(.seq
(.keep [0, 5]
(.reg (oM 25 5 ::
oD 26 (.bin .lss (.t 25) (cI 4)) ::
oM 27 26 ::
oF 27 28 (.mov (.t 5)) ::
oF 27 29 (.bin .gtr (.t 28) (cI 65528)) ::
oD 30 (.pick (.t 27) cT (.t 29)) ::
oM 31 30 ::
oF 31 32 (.mov (.t 5)) ::
oF 31 33 (.mov (.t 5)) ::
oF 31 34 (.call false (.f 86) [(.t 33)]) ::
oF 31 35 (.bin .add (.t 32) (.t 34)) ::
oF 31 36 (.mov (.t 0)) ::
oF 31 37 (.len (.t 36)) ::
oF 31 38 (.bin .gtr (.t 35) (.t 37)) ::
oD 39 (.pick (.t 31) cT (.t 38)) ::
[])))
(.cond (.t 39)
(.seq
(.keep []
(.reg (oD 2 (.nilrow (.cons (.int .i64) (.cons (.int .i64) (.cons .bool (.cons (.int .u64) (.cons (.sl (.int .u8)) (.cons (.sl (.int .u8)) .nil))))))) ::
oD 3 (.mov (cI 0)) ::
oD 4 (.mov (cI 1026)) ::
[])))
.ret)
.skip))
(.seq
(.keep [0, 5]
(.reg (oD 6 (.nilrow (.cons (.int .i64) (.cons (.int .i64) (.cons .bool (.cons (.int .u64) (.cons (.sl (.int .u8)) (.cons (.sl (.int .u8)) .nil))))))) ::
[])))
(.seq
(.seq
(.reg (oD 7 (.mov (cI 4)) ::
[]))
(.block 0
(.loop
(.seq
(.seq
(.keep [0, 5, 6, 7]
(.reg (oM 40 7 ::
oM 41 5 ::
oD 42 (.bin .lss (.t 40) (.t 41)) ::
[])))
(.cond (.t 42)
.skip
(.exit 0)))
(.block 1
(.seq
(.keep [0, 5, 6, 7]
(.reg (oM 44 0 ::
oM 45 7 ::
oM 46 5 ::
oD 47 (.slice 1 (.t 44) (some (.t 45)) (some (.t 46)) none) ::
oD 48 (.call false (.f 87) [(.t 47)]) ::
oM 43 48 ::
oD 49 (.extract (.t 43) 0) ::
oD 50 (.extract (.t 43) 1) ::
oD 51 (.extract (.t 43) 2) ::
oD 8 (.box [.int .i64 0, .int .i64 0, .kb false, .int .u64 0, .imm (.int .u8) [], .imm (.int .u8) []]) ::
oN (.store 6 (.t 8) (.t 49)) ::
oM 9 50 ::
oM 10 51 ::
[])))
(.seq
(.seq
(.keep [0, 5, 6, 7, 8, 9, 10]
(.reg (oM 52 10 ::
oD 53 (.bin .neq (.t 52) (cI 0)) ::
[])))
(.cond (.t 53)
(.seq
(.reg (oM 54 10 ::
oD 2 (.nilrow (.cons (.int .i64) (.cons (.int .i64) (.cons .bool (.cons (.int .u64) (.cons (.sl (.int .u8)) (.cons (.sl (.int .u8)) .nil))))))) ::
oD 3 (.mov (cI 0)) ::
oM 4 54 ::
[]))
.ret)
.skip))
(.seq
(.keep [0, 5, 6, 7, 8, 9]
(.reg (oM 55 6 ::
oD 56 (.load (some 6) (.t 8)) ::
oD 57 (.sliceAll (.cons (.int .i64) (.cons (.int .i64) (.cons .bool (.cons (.int .u64) (.cons (.sl (.int .u8)) (.cons (.sl (.int .u8)) .nil)))))) 1 [(0, 6, (.t 56))]) ::
oD 58 (.append (.cons (.int .i64) (.cons (.int .i64) (.cons .bool (.cons (.int .u64) (.cons (.sl (.int .u8)) (.cons (.sl (.int .u8)) .nil)))))) 80 (.t 55) (.t 57)) ::
oM 6 58 ::
[])))
(.seq
(.seq
(.keep [0, 5, 6, 7, 9]
(.reg (oM 60 6 ::
oD 61 (.call false (.f 88) [(.t 60)]) ::
oM 59 61 ::
oD 62 (.extract (.t 59) 0) ::
oD 63 (.extract (.t 59) 1) ::
oM 11 62 ::
oM 12 63 ::
[])))
(.seq
(.keep [0, 5, 6, 7, 9, 12]
(.reg (oM 64 12 ::
oD 65 (.bin .neq (.t 64) (cI 0)) ::
[])))
(.cond (.t 65)
(.seq
(.reg (oM 66 12 ::
oD 2 (.nilrow (.cons (.int .i64) (.cons (.int .i64) (.cons .bool (.cons (.int .u64) (.cons (.sl (.int .u8)) (.cons (.sl (.int .u8)) .nil))))))) ::
oD 3 (.mov (cI 0)) ::
oM 4 66 ::
[]))
.ret)
.skip)))
(.keep [0, 5, 6, 7, 9]
(.reg (oM 67 7 ::
oM 68 9 ::
oD 69 (.bin .add (.t 67) (.t 68)) ::
oM 7 69 ::
[]))))))))))))
(.seq
(.seq
(.keep [0, 5, 6]
(.reg (oM 70 5 ::
oM 13 70 ::
[])))
(.block 2
(.loop
(.seq
(.seq
(.keep [0, 5, 6, 13]
(.reg (oM 71 13 ::
oM 72 5 ::
oM 73 5 ::
oD 74 (.call false (.f 86) [(.t 73)]) ::
oD 75 (.bin .add (.t 72) (.t 74)) ::
oD 76 (.bin .lss (.t 71) (.t 75)) ::
[])))
(.cond (.t 76)
.skip
(.exit 2)))
(.seq
(.block 3
(.seq
(.keep [0, 5, 6, 13]
(.reg (oM 79 0 ::
oM 80 13 ::
oD 81 (.indexSl 1 (.t 79) (.t 80)) ::
oL 82 81 ::
oD 83 (.bin .neq (.t 82) (.c (.int .u8 0))) ::
[])))
(.cond (.t 83)
(.seq
(.reg (oD 2 (.nilrow (.cons (.int .i64) (.cons (.int .i64) (.cons .bool (.cons (.int .u64) (.cons (.sl (.int .u8)) (.cons (.sl (.int .u8)) .nil))))))) ::
oD 3 (.mov (cI 0)) ::
oD 4 (.mov (cI 1026)) ::
[]))
.ret)
.skip)))
(.keep [0, 5, 6, 13]
(.reg (oM 77 13 ::
oD 78 (.bin .add (.t 77) (cI 1)) ::
oM 13 78 ::
[]))))))))
(.seq
(.keep [5, 6]
(.reg (oM 84 6 ::
oM 85 5 ::
oM 86 5 ::
oD 87 (.call false (.f 86) [(.t 86)]) ::
oD 88 (.bin .add (.t 85) (.t 87)) ::
oM 2 84 ::
oM 3 88 ::
oD 4 (.mov (cI 0)) ::
[])))
.ret)))))))))
def rd_r10_Decode : List RD := [.tmp 2 true (some (.cons (.int .i64) (.cons (.int .i64) (.cons .bool (.cons (.int .u64) (.cons (.sl (.int .u8)) (.cons (.sl (.int .u8)) .nil))))))), .tmp 3 true none, .tmp 4 true none]
theorem ok_r10_Decode : fnOk Tryz.prog Tryz.f27 ir_r10_Decode rd_r10_Decode = true := by kernel_rfl
def S_r10_Decode : List AV → List Obj → Option (Prop × AV)
  | [.imm (.int .u8) b], [] => some ((b.length ≤ 1000000, .tup [.imm (.cons (.int .i64) (.cons (.int .i64) (.cons .bool (.cons (.int .u64) (.cons (.sl (.int .u8)) (.cons (.sl (.int .u8)) .nil)))))) (mdL b), .int .i64 (mdN b), .int .i64 (mdE b)]))
  | _, _ => none
theorem snd_r10_Decode : SoundS Tryz.prog 27 (RoF S_r10_Decode).sum := by
  refine ro_fn Tryz.func27 ok_r10_Decode (env_cons (s := RoF S_r01_Value) snd_r01_Value (env_cons (s := RoF S_r10_zeros) snd_r10_zeros (env_cons (s := RoF S_r08_Decode) snd_r08_Decode (env_cons (s := RoF S_r09_Check) snd_r09_Check (env_nil _))))) fun args objs p v e => ?_
  unfold S_r10_Decode at e
  split at e
  · rename_i b
    cases e
    refine ⟨rfl, fun hw ho hp => ?_⟩
    change List Int at b
    have hb : ∀ x ∈ (b : List Int), (0 : Int) ≤ x ∧ x ≤ 255 := fun x hx => (hw (.imm (.int .u8) b) (by simp)).1 x hx
    clear hw ho
    have hn2 : 0 ≤ tN b ∧ tN b ≤ 65535 := num2_le (a := 2) hb
    have hz := pz_le hn2.1
    have v1 : numL (b.take (2 : Int).toNat) = tT b := rfl
    have v2 : numL ((b.take (4 : Int).toNat).drop (2 : Int).toNat) = tN b := by unfold tN; rw [List.drop_take]; rfl
    have q2 : (b.take 2).length ≤ 8 := by rw [List.length_take]; omega
    have q4 : ((b.take 4).drop 2).length ≤ 8 := by rw [List.length_drop, List.length_take]; omega
    by_cases h4 : b.length < 4
    · have hE : mdE b = 1026 := if_pos h4
      obtain ⟨m1, m2⟩ := md_bad hE (by decide)
      rw [m1, m2, hE]
      repeat' (intro t ht; first | (cases t <;> first | (cases ht; done) | ((try simp only [bn_s] at ht); (try simp only [nd_s] at ht); (try (exfalso; first | contradiction | omega)))) | (refine ht ?_ ?_ <;> clear ht) | (refine ht.1 ?_ ?_ <;> clear ht) | (refine ht ?_; clear ht))
      all_goals first
        | exact True.intro
        | exact ⟨rfl, by first | rfl | exact True.intro⟩
        | trace_state
    · by_cases ht1 : tT b = 1
      · by_cases hr : tN b < 4 ∨ 65528 < tN b ∨ b.length < tN b + pz (tN b)
        · have hE : mdE b = 1026 := by unfold mdE; rw [if_neg h4, if_neg (not_not_intro ht1), if_pos hr]
          obtain ⟨m1, m2⟩ := md_bad hE (by decide)
          rw [m1, m2, hE]
          repeat' (intro t ht; first | (cases t <;> first | (cases ht; done) | ((try simp only [bn_s] at ht); (try simp only [nd_s] at ht))) | (refine ht ?_ ?_ <;> clear ht) | (refine ht.1 ?_ ?_ <;> clear ht) | (refine ht ?_; clear ht))
          all_goals (try simp only [v1, v2] at *)
          all_goals first
            | exact True.intro
            | contradiction
            | exact q2
            | exact q4
            | omega
            | ((try simp only [nd_s, bn_s, mm_s] at *); omega)
            | exact ⟨rfl, by first | rfl | exact True.intro⟩
            | exact ⟨True.intro, True.intro⟩
            | (exfalso; omega)
            | trace_state
        · have hN : (b.take (tN b).toNat).length = (tN b).toNat := by rw [List.length_take]; omega
          repeat' (intro t ht; first | (cases t <;> first | (cases ht; done) | ((try simp only [bn_s] at ht); (try simp only [nd_s] at ht))) | (refine ht ?_ ?_ <;> clear ht) | (refine ht.1 ?_ ?_ <;> clear ht) | (refine ht ?_; clear ht))
          all_goals first
            | exact True.intro
            | contradiction
            | exact q2
            | exact q4
            | omega
            | (rw [v2]; (try simp only [nd_s, bn_s, mm_s] at *); omega)
            | (exfalso; rw [v2] at *; omega)
            | (exfalso; rw [v1] at *; contradiction)
            | (intro r h1 h2; clear h1; refine h2 ⟨[0, 5, 6, 7], Nat × List OV, (fun a => 4 ≤ a.1 ∧ a.1 ≤ tN b ∧ a.2.length ≤ a.1 ∧ mlG [] (bd b) = mlG a.2 ((b.take (tN b).toNat).drop a.1)), (fun a => [.imm (.int .u8) b, .int .i64 (tN b), .own 0, .int .i64 a.1]), (fun a => [.row false (.cons (.int .i64) (.cons (.int .i64) (.cons .bool (.cons (.int .u64) (.cons (.sl (.int .u8)) (.cons (.sl (.int .u8)) .nil)))))) a.2]), (fun a => b.length - a.1), ⟨(4, []), ⟨Nat.le_refl _, by dsimp only; omega, Nat.zero_le _, rfl⟩, (by rw [← v2]; rfl), rfl⟩, ?_⟩; clear h2)
            | trace_state
          rintro ⟨k, acc⟩ ⟨k1, k2, k3, k4⟩
          dsimp only at k1 k2 k3 k4
          have hyb : ∀ x ∈ (b.take (tN b).toNat).drop k, (0 : Int) ≤ x ∧ x ≤ 255 := fun x hx => hb x (List.mem_of_mem_take (List.mem_of_mem_drop hx))
          have hdl := dec_law hyb
          have hyl : ((b.take (tN b).toNat).drop k).length = (tN b).toNat - k := by rw [List.length_drop, hN]
          by_cases hkn : (k : Int) < tN b
          · repeat' (intro t ht; first | (cases t <;> first | (cases ht; done) | ((try simp only [bn_s] at ht); (try simp only [nd_s] at ht); (try (exfalso; first | contradiction | omega)))) | (refine ht ?_ ?_ <;> clear ht) | (refine ht.1 ?_ ?_ <;> clear ht) | (refine ht ?_; clear ht))
            all_goals (try simp only [cast_rfl, Int.toNat_natCast])
            all_goals generalize hy : (b.take (tN b).toNat).drop k = y at *
            all_goals have hyn : ¬ y.length = 0 := by omega
            all_goals first
              | exact True.intro
              | ((try simp only [nd_s, bn_s, mm_s] at *); omega)
              | (have h0 : ¬ rE y = 0 := by assumption
                 have hg := mlG_bad (acc := acc) hyn (show ¬ decE y = 0 by rw [hdl]; exact h0)
                 rw [hg, hdl] at k4
                 obtain ⟨m0, m1, m2⟩ := md_list (e := rE y) h4 ht1 hr (by rw [k4]) h0
                 rw [m0, m1, m2]; exact ⟨rfl, by first | rfl | exact True.intro⟩)
              | (have h0 : rE y = 0 := by assumption
                 have hd0 : decE y = 0 := hdl.trans h0
                 have hv := vR_eq h0
                 have hg := decN_ge hyb hd0
                 have e1 : rI y (decN y) = decN y := if_pos h0
                 simp only [e1, hv] at *
                 first
                   | (simp only [List.length_cons, List.length_nil]; constructor <;> omega)
                   | ((try simp only [nd_s, bn_s, mm_s] at *); omega)
                   | (have hc : ¬ (ckS [] (acc ++ [vO y])).2 = 0 := by assumption
                      have hm := mlG_ck (acc := acc) hyn hd0 hc
                      rw [hm] at k4
                      obtain ⟨m0, m1, m2⟩ := md_list h4 ht1 hr (by rw [k4]) hc
                      rw [m0, m1, m2]; exact ⟨rfl, by first | rfl | exact True.intro⟩)
                   | (have hc : (ckS [] (acc ++ [vO y])).2 = 0 := by assumption
                      have hm := mlG_ok (acc := acc) hyb hyn hd0 hc
                      refine ⟨(k + (decN y).toNat, acc ++ [vO y]), ⟨?_, ?_, ?_, ?_⟩, ?_, ?_, rfl⟩
                      · dsimp only; omega
                      · dsimp only; omega
                      · simp only [List.length_append, List.length_cons, List.length_nil]; omega
                      · dsimp only; rw [k4, hm, ← hy, List.drop_drop]
                      · dsimp only; omega
                      · dsimp only; rw [Int.natCast_add, Int.toNat_of_nonneg (by omega)]; rfl))
              | trace_state
          · have hnil := mlG_nil (acc := acc) (y := (b.take (tN b).toNat).drop k) (by omega)
            have hmi := md_in h4 ht1 hr
            rw [k4, hnil, if_neg (not_not_intro rfl)] at hmi
            repeat' (intro t ht; first | (cases t <;> first | (cases ht; done) | ((try simp only [bn_s] at ht); (try simp only [nd_s] at ht); (try (exfalso; first | contradiction | omega)))) | (refine ht ?_ ?_ <;> clear ht) | (refine ht.1 ?_ ?_ <;> clear ht) | (refine ht ?_; clear ht))
            all_goals first
              | exact True.intro
              | ((try simp only [nd_s, bn_s, mm_s] at *); omega)
              | (intro r h1 h2; clear h1; refine h2 ⟨[0, 5, 6, 13], Nat, (fun i => tN b ≤ i ∧ i ≤ tN b + pz (tN b) ∧ mdZ b = zeroL ((b.drop i).take (tN b + pz (tN b) - i).toNat)), (fun i => [.imm (.int .u8) b, .int .i64 (tN b), .own 0, .int .i64 i]), (fun i => [.row false (.cons (.int .i64) (.cons (.int .i64) (.cons .bool (.cons (.int .u64) (.cons (.sl (.int .u8)) (.cons (.sl (.int .u8)) .nil)))))) acc]), (fun i => b.length - i), ⟨(tN b).toNat, ⟨by omega, by omega, by unfold mdZ; rw [show (tN b + pz (tN b) - ((tN b).toNat : Nat)).toNat = (pz (tN b)).toNat by omega]⟩, (by dsimp only; rw [Int.toNat_of_nonneg hn2.1]; try rfl), rfl⟩, ?_⟩; clear h2)
              | trace_state
            rintro i ⟨i1, i2, i3⟩
            repeat' (intro t ht; first | (cases t <;> first | (cases ht; done) | ((try simp only [bn_s] at ht); (try simp only [nd_s] at ht); (try (exfalso; first | contradiction | omega)))) | (refine ht ?_ ?_ <;> clear ht) | (refine ht.1 ?_ ?_ <;> clear ht) | (refine ht ?_; clear ht))
            all_goals first
              | exact True.intro
              | ((try simp only [nd_s, bn_s, mm_s] at *); omega)
              | (simp only [Int.toNat_natCast]; omega)
              | (have hge : ¬ (i : Int) < tN b + pz (tN b) := by assumption
                 have hz0 : mdZ b = true := by rw [i3, show (tN b + pz (tN b) - (i : Int)).toNat = 0 by omega]; rfl
                 rw [if_pos hz0] at hmi
                 have m1 : mdL b = acc := by unfold mdL; rw [if_pos hmi, k4, hnil]
                 have m2 : mdN b = tN b + pz (tN b) := if_pos hmi
                 rw [m1, m2, hmi]; exact ⟨rfl, by first | rfl | exact True.intro⟩)
              | (have hlt : i < b.length := by omega
                 have hs := zT_step (b := b) (i := i) (m := (tN b + pz (tN b) - (i : Int)).toNat) hlt (by omega)
                 rw [hs] at i3
                 first
                   | (have hq : b.getD i 0 = 0 := by assumption
                      rw [hq] at i3
                      refine ⟨i + 1, ⟨by omega, by omega, ?_⟩, by dsimp only; omega, rfl, rfl⟩
                      rw [i3, show (tN b + pz (tN b) - ((i + 1 : Nat) : Int)).toNat = (tN b + pz (tN b) - (i : Int)).toNat - 1 by omega]; rfl)
                   | (have hq : ¬ b.getD i 0 = 0 := by assumption
                      have hz0 : mdZ b = false := by rw [i3, decide_eq_false hq]; rfl
                      rw [hz0] at hmi
                      have hE : mdE b = 1026 := hmi
                      obtain ⟨m1, m2⟩ := md_bad hE (by decide)
                      rw [m1, m2, hE]; exact ⟨rfl, by first | rfl | exact True.intro⟩))
              | trace_state
      · have hE : mdE b = 1025 := by unfold mdE; rw [if_neg h4, if_pos ht1]
        obtain ⟨m1, m2⟩ := md_bad hE (by decide)
        rw [m1, m2, hE]
        repeat' (intro t ht; first | (cases t <;> first | (cases ht; done) | ((try simp only [bn_s] at ht); (try simp only [nd_s] at ht))) | (refine ht ?_ ?_ <;> clear ht) | (refine ht.1 ?_ ?_ <;> clear ht) | (refine ht ?_; clear ht))
        all_goals (try simp only [v1, v2] at *)
        all_goals first
          | exact True.intro
          | contradiction
          | exact q2
          | exact q4
          | omega
          | ((try simp only [nd_s, bn_s, mm_s] at *); omega)
          | exact ⟨rfl, by first | rfl | exact True.intro⟩
          | exact ⟨True.intro, True.intro⟩
          | (exfalso; omega)
          | trace_state
  · cases e
end Go.Eng
