/- Contracts of functions of the given program, told by plain Lean functions. No condition. -/
import Derived.Test.YtmbcgankddgpjaaGreatDoorProg
import Derived.Test.YtmbcgankddgpjaaGreatDoorEArg
import Derived.KernelRfl
import Derived.Test.YtmbcgankddgpjaaGreatDoorA3
namespace Go.Eng
open Go.Proofs
set_option linter.unusedVariables false
set_option linter.unusedSimpArgs false
set_option maxRecDepth 100000
set_option maxHeartbeats 1000000
theorem get22 (b : List Int) : getF [2, 2] b = if b.length < 4 then ([], 1) else ([numL (b.take 2), numL ((b.drop 2).take 2)], 0) := by
  have hr : rightF [2, 2] = true := by decide
  unfold getF
  rw [if_pos hr]
  have a2 : absI 2 = 2 := by decide
  have t2 : Int.toNat 2 = 2 := rfl
  have p2 : (0 : Int) < 2 := by decide
  simp only [getA, a2, t2, if_pos p2, List.length_drop]
  by_cases h : b.length < 4
  · rw [if_pos h]
    by_cases h2 : (b.length : Int) < 2
    · rw [if_pos h2]
    · rw [if_neg h2, if_pos (by omega)]
  · rw [if_neg h, if_neg (by omega), if_neg (by omega)]; rfl
def tT (b : List Int) : Int := numL (b.take 2)
def tN (b : List Int) : Int := numL ((b.drop 2).take 2)
def tlE (b : List Int) (least step bad : Int) : Int := if b.length < 4 then bad else if tN b < least ∨ ¬ (tN b).tmod step = 0 then bad else if (b.length : Int) < tN b then bad else 0
def tlI (b : List Int) (least step bad x : Int) : Int := if tlE b least step bad = 0 then x else 0
def tlR (b : List Int) (least step bad : Int) : List Int := if tlE b least step bad = 0 then (b.take (tN b).toNat).drop 4 else []
theorem num2_le {b : List Int} {a : Nat} (hb : ∀ x ∈ b, 0 ≤ x ∧ x ≤ 255) : 0 ≤ numL ((b.drop a).take 2) ∧ numL ((b.drop a).take 2) ≤ 65535 := by
  have h := numL_le ((b.drop a).take 2) fun x hx => hb x (List.mem_of_mem_drop (List.mem_of_mem_take hx))
  have hl : ((b.drop a).take 2).length ≤ 2 := by rw [List.length_take]; omega
  have hp : ∀ k ≤ 2, (256 : Int) ^ k ≤ 65536 := by decide
  have := hp _ hl
  omega
def bd (b : List Int) : List Int := (b.take (tN b).toNat).drop 4
theorem bd_le {b : List Int} (hb : ∀ x ∈ b, 0 ≤ x ∧ x ≤ 255) : (bd b).length ≤ 65535 := by
  have := num2_le (a := 2) hb
  unfold bd tN; rw [List.length_drop, List.length_take]; omega
theorem cur22 {b : List Int} {sh od : Int} : curL [2, 2] b 0 0 = (if b.length < 4 then [] else [tT b, tN b]) ∧ curP [2, 2] b 0 0 = (if b.length < 4 then 0 else 4) ∧ curE [2, 2] b 0 sh od 0 = (if b.length < 4 then sh else 0) := by
  have e : getF [2, 2] (b.drop (0 : Int).toNat) = if b.length < 4 then ([], 1) else ([tT b, tN b], 0) := by
    rw [show (0 : Int).toNat = 0 from rfl, List.drop_zero, get22]; rfl
  have es : sizeW [2, 2] = 4 := by decide
  unfold curL curP curE getL getK
  rw [e, es]
  by_cases h : b.length < 4
  · simp only [if_pos h]; exact ⟨rfl, rfl, rfl⟩
  · simp only [if_neg h]; exact ⟨rfl, rfl, rfl⟩
def ir_tlv_Shape_may : IR :=
(.seq
(.keep [0]
(.reg (oD 1 (.boxv (.t 0)) ::
oD 2 (.mov cF) ::
[])))
(.seq
(.keep [1]
(.reg (oD 3 (.fieldAddr 0 (.t 1)) ::
oL 4 3 ::
oD 5 (.bin .geq (.t 4) (cI 4)) ::
oM 6 5 ::
oT 6 7 (.fieldAddr 0 (.t 1)) ::
oT 6 8 (.load none (.t 7)) ::
oT 6 9 (.bin .leq (.t 8) (cI 60000)) ::
oD 10 (.pick (.t 6) (.t 9) cF) ::
oM 11 10 ::
oT 11 12 (.fieldAddr 1 (.t 1)) ::
oT 11 13 (.load none (.t 12)) ::
oT 11 14 (.bin .geq (.t 13) (cI 1)) ::
oD 15 (.pick (.t 11) (.t 14) cF) ::
oM 16 15 ::
oT 16 17 (.fieldAddr 1 (.t 1)) ::
oT 16 18 (.load none (.t 17)) ::
oT 16 19 (.bin .leq (.t 18) (cI 64)) ::
oD 20 (.pick (.t 16) (.t 19) cF) ::
oM 21 20 ::
oT 21 22 (.fieldAddr 3 (.t 1)) ::
oT 21 23 (.load none (.t 22)) ::
oT 21 24 (.bin .neq (.t 23) (cI 0)) ::
oD 25 (.pick (.t 21) (.t 24) cF) ::
oM 26 25 ::
oT 26 27 (.fieldAddr 4 (.t 1)) ::
oT 26 28 (.load none (.t 27)) ::
oT 26 29 (.bin .neq (.t 28) (cI 0)) ::
oD 30 (.pick (.t 26) (.t 29) cF) ::
oM 2 30 ::
[])))
.ret))
def rd_tlv_Shape_may : List RD := [.tmp 2 true none]
theorem ok_tlv_Shape_may : fnOk Tryz.prog Tryz.f220 ir_tlv_Shape_may rd_tlv_Shape_may = true := by kernel_rfl
def S_tlv_Shape_may : List AV → List Obj → Option (Prop × AV)
  | [.agg [.int .i64 least, .int .i64 step, .bool pad, .int .i64 bad, .int .i64 odd]], [] => some ((4 ≤ least ∧ least ≤ 60000 ∧ 1 ≤ step ∧ step ≤ 64 ∧ bad ≠ 0 ∧ odd ≠ 0, .bool true))
  | _, _ => none
theorem snd_tlv_Shape_may : SoundS Tryz.prog 220 (RoF S_tlv_Shape_may).sum := by
  refine ro_fn Tryz.func220 ok_tlv_Shape_may (env_nil _) fun args objs p v e => ?_
  unfold S_tlv_Shape_may at e
  split at e
  · rename_i least step pad bad odd
    cases e
    refine ⟨rfl, fun hw ho hp => ?_⟩
    clear hw ho
    obtain ⟨h1, h2, h3, h4, h5, h6⟩ := hp
    repeat' (intro t ht; first | (cases t <;> first | (cases ht; done) | ((try simp only [bn_s] at ht); (try simp only [nd_s] at ht); (try (exfalso; first | contradiction | omega)))) | (refine ht ?_ ?_ <;> clear ht) | (refine ht.1 ?_ ?_ <;> clear ht) | (refine ht ?_; clear ht))
    all_goals first
      | exact True.intro
      | exact ⟨rfl, rfl⟩
      | (exfalso; omega)
      | (refine ⟨congrArg AV.bool ?_, rfl⟩; simp; omega)
      | trace_state
  · cases e
def ir_tlv_Shape_fits : IR :=
(.seq
(.keep [0, 1]
(.reg (oD 2 (.boxv (.t 0)) ::
oD 4 (.mov cF) ::
[])))
(.seq
(.keep [1, 2]
(.reg (oM 5 1 ::
oD 6 (.fieldAddr 0 (.t 2)) ::
oL 7 6 ::
oD 8 (.bin .geq (.t 5) (.t 7)) ::
oM 9 8 ::
oT 9 10 (.fieldAddr 2 (.t 2)) ::
oT 9 11 (.load none (.t 10)) ::
oT 9 12 (.mov (.t 11)) ::
oF 12 13 (.mov (.t 1)) ::
oF 12 14 (.fieldAddr 1 (.t 2)) ::
oF 12 15 (.load none (.t 14)) ::
oF 12 16 (.bin .rem (.t 13) (.t 15)) ::
oF 12 17 (.bin .eql (.t 16) (cI 0)) ::
oT 9 18 (.pick (.t 12) cT (.t 17)) ::
oD 19 (.pick (.t 9) (.t 18) cF) ::
oM 4 19 ::
[])))
.ret))
def rd_tlv_Shape_fits : List RD := [.tmp 4 true none]
theorem ok_tlv_Shape_fits : fnOk Tryz.prog Tryz.f221 ir_tlv_Shape_fits rd_tlv_Shape_fits = true := by kernel_rfl
def S_tlv_Shape_fits : List AV → List Obj → Option (Prop × AV)
  | [.agg [.int .i64 least, .int .i64 step, .bool pad, .int .i64 bad, .int .i64 odd], .int .i64 n], [] => some ((pad = false ∧ 1 ≤ step, .bool (decide (least ≤ n) && decide (n.tmod step = 0))))
  | _, _ => none
theorem snd_tlv_Shape_fits : SoundS Tryz.prog 221 (RoF S_tlv_Shape_fits).sum := by
  refine ro_fn Tryz.func221 ok_tlv_Shape_fits (env_nil _) fun args objs p v e => ?_
  unfold S_tlv_Shape_fits at e
  split at e
  · rename_i least step pad bad odd n
    cases e
    refine ⟨rfl, fun hw ho hp => ?_⟩
    clear hw ho
    obtain ⟨rfl, h1⟩ := hp
    repeat' (intro t ht; first | (cases t <;> first | (cases ht; done) | ((try simp only [bn_s] at ht); (try simp only [nd_s] at ht); (try (exfalso; first | contradiction | omega)))) | (refine ht ?_ ?_ <;> clear ht) | (refine ht.1 ?_ ?_ <;> clear ht) | (refine ht ?_; clear ht))
    all_goals first
      | exact True.intro
      | omega
      | (refine ⟨congrArg AV.bool ?_, rfl⟩; simp_all; done)
      | (refine ⟨congrArg AV.bool ?_, rfl⟩; rw [decide_eq_false (by omega)]; rfl)
      | trace_state
  · cases e
def ir_tlv_Shape_zeros : IR :=
(.seq
(.keep [0, 1]
(.reg (oD 2 (.boxv (.t 0)) ::
oD 4 (.mov (cI 0)) ::
[])))
(.seq
(.seq
(.reg (oD 5 (.fieldAddr 2 (.t 2)) ::
oL 6 5 ::
oD 7 (.un .not (.t 6)) ::
[]))
(.cond (.t 7)
(.seq
(.reg (oD 4 (.mov (cI 0)) ::
[]))
.ret)
.skip))
(.seq
(.keep [1, 2]
(.regD ((oD 8 (.fieldAddr 1 (.t 2)), []) ::
(oL 9 8, []) ::
(oM 10 1, [0, 0]) ::
(oD 11 (.fieldAddr 1 (.t 2)), [0, 0, 0]) ::
(oL 12 11, [1, 0, 0]) ::
(oD 13 (.bin .rem (.t 10) (.t 12)), [3, 0]) ::
(oD 14 (.bin .sub (.t 9) (.t 13)), []) ::
(oD 15 (.fieldAddr 1 (.t 2)), [0, 0, 0, 0, 0, 0, 0]) ::
(oL 16 15, [1, 0, 0, 0, 0, 0, 0]) ::
(oD 17 (.bin .rem (.t 14) (.t 16)), []) ::
(oM 4 17, []) ::
[])))
.ret)))
def rd_tlv_Shape_zeros : List RD := [.tmp 4 true none]
theorem ok_tlv_Shape_zeros : fnOk Tryz.prog Tryz.f222 ir_tlv_Shape_zeros rd_tlv_Shape_zeros = true := by kernel_rfl
def S_tlv_Shape_zeros : List AV → List Obj → Option (Prop × AV)
  | [.agg [.int .i64 least, .int .i64 step, .bool pad, .int .i64 bad, .int .i64 odd], .int .i64 n], [] => some ((pad = false, .int .i64 0))
  | _, _ => none
theorem snd_tlv_Shape_zeros : SoundS Tryz.prog 222 (RoF S_tlv_Shape_zeros).sum := by
  refine ro_fn Tryz.func222 ok_tlv_Shape_zeros (env_nil _) fun args objs p v e => ?_
  unfold S_tlv_Shape_zeros at e
  split at e
  · rename_i least step pad bad odd n
    cases e
    refine ⟨rfl, fun hw ho hp => ?_⟩
    clear hw ho
    subst hp
    repeat' (intro t ht; first | (cases t <;> first | (cases ht; done) | ((try simp only [bn_s] at ht); (try simp only [nd_s] at ht); (try (exfalso; first | contradiction | omega)))) | (refine ht ?_ ?_ <;> clear ht) | (refine ht.1 ?_ ?_ <;> clear ht) | (refine ht ?_; clear ht))
    all_goals first
      | exact True.intro
      | exact ⟨rfl, rfl⟩
      | trace_state
  · cases e
def ir_tlv_One : IR :=
(.seq
(.keep [0, 1]
(.reg (oD 2 (.boxv (.t 0)) ::
oD 4 (.box [.int .i64 0, .imm (.int .u8) []]) ::
oD 5 (.mov (cI 0)) ::
oD 6 (.mov (cI 0)) ::
[])))
(.seq
(.seq
(.reg (oD 13 (.load (some 5) (.t 2)) ::
oD 14 (.call false (.f 220) [(.t 13)]) ::
oD 15 (.un .not (.t 14)) ::
[]))
(.cond (.t 15)
(.seq
(.keep [4]
(.reg (oD 16 (.build [.int .i64 0, .imm (.int .u8) []] []) ::
oN (.store 2 (.t 4) (.t 16)) ::
oD 5 (.mov (cI 0)) ::
oD 6 (.mov (cI 10001)) ::
[])))
.ret)
.skip))
(.seq
(.keep [1, 2, 4]
(.reg (oM 17 1 ::
oD 18 (.fieldAddr 3 (.t 2)) ::
oL 19 18 ::
oD 20 (.fieldAddr 4 (.t 2)) ::
oL 21 20 ::
oD 22 (.call false (.f 28) [(.t 17), (.t 19), (.t 21)]) ::
oM 7 22 ::
[])))
(.seq
(.keep [1, 2, 4, 7]
(.reg (oM 23 7 ::
oD 24 (.sliceAll (.int .i64) 2 [(0, 1, (cI 2)), (1, 1, (cI 2))]) ::
oD 25 (.call false (.f 84) [(.t 23), (.t 24)]) ::
oM 8 25 ::
[])))
(.seq
(.seq
(.reg (oM 26 8 ::
oD 27 (.len (.t 26)) ::
oD 28 (.bin .eql (.t 27) (cI 0)) ::
[]))
(.cond (.t 28)
(.seq
(.keep [4, 7]
(.reg (oD 29 (.build [.int .i64 0, .imm (.int .u8) []] []) ::
oM 30 7 ::
oD 31 (.call false (.f 32) [(.t 30)]) ::
oN (.store 2 (.t 4) (.t 29)) ::
oD 5 (.mov (cI 0)) ::
oM 6 31 ::
[])))
.ret)
.skip))
(.seq
(.keep [1, 2, 4, 7, 8]
(.reg (oM 32 8 ::
oD 33 (.indexSl 1 (.t 32) (cI 1)) ::
oL 34 33 ::
oD 35 (.conv .i64 (.t 34)) ::
oM 9 35 ::
[])))
(.seq
(.seq
(.keep [1, 2, 4, 7, 8, 9]
(.reg (oD 36 (.load (some 5) (.t 2)) ::
oM 37 9 ::
oD 38 (.call false (.f 221) [(.t 36), (.t 37)]) ::
oD 39 (.un .not (.t 38)) ::
oM 40 39 ::
oF 40 41 (.mov (.t 9)) ::
oF 40 42 (.load (some 5) (.t 2)) ::
oF 40 43 (.mov (.t 9)) ::
oF 40 44 (.call false (.f 222) [(.t 42), (.t 43)]) ::
oF 40 45 (.bin .add (.t 41) (.t 44)) ::
oF 40 46 (.mov (.t 1)) ::
oF 40 47 (.len (.t 46)) ::
oF 40 48 (.bin .gtr (.t 45) (.t 47)) ::
oD 49 (.pick (.t 40) cT (.t 48)) ::
[])))
(.cond (.t 49)
(.seq
(.keep [2, 4]
(.regD ((oD 50 (.build [.int .i64 0, .imm (.int .u8) []] []), []) ::
(oD 51 (.fieldAddr 3 (.t 2)), [0]) ::
(oL 52 51, [1]) ::
(oN (.store 2 (.t 4) (.t 50)), [0, 0]) ::
(oD 5 (.mov (cI 0)), [1, 0]) ::
(oM 6 52, []) ::
[])))
.ret)
.skip))
(.seq
(.keep [2, 4, 7, 8, 9]
(.regD ((oM 53 8, []) ::
(oD 54 (.indexSl 1 (.t 53) (cI 0)), []) ::
(oL 55 54, []) ::
(oD 56 (.conv .i64 (.t 55)), []) ::
(oM 57 7, [0, 0, 0, 0]) ::
(oM 58 9, [0, 0, 0, 0, 0]) ::
(oD 59 (.bin .sub (.t 58) (cI 4)), [1, 0, 0, 0, 0]) ::
(oD 60 (.call false (.f 29) [(.t 57), (.t 59)]), [3, 0, 0, 0]) ::
(oD 61 (.buildAll 2 [(0, 1, (.t 56)), (1, 1, (.t 60))]), []) ::
(oD 10 (.box [.int .i64 0, .imm (.int .u8) []]), [0, 0, 0, 0, 0, 0, 0, 0, 0]) ::
(oN (.store 2 (.t 10) (.t 61)), []) ::
[])))
(.seq
(.seq
(.keep [2, 4, 7, 9, 10]
(.reg (oD 62 (.load (some 5) (.t 2)) ::
oM 63 9 ::
oD 64 (.call false (.f 222) [(.t 62), (.t 63)]) ::
oM 11 64 ::
[])))
(.seq
(.reg (oM 65 11 ::
oD 66 (.bin .gtr (.t 65) (cI 0)) ::
[]))
(.cond (.t 66)
(.keep [4, 7, 10, 11]
(.reg (oM 67 7 ::
oM 68 11 ::
oD 69 (.un .neg (.t 68)) ::
oD 70 (.sliceAll (.int .i64) 1 [(0, 1, (.t 69))]) ::
oD 71 (.call false (.f 84) [(.t 67), (.t 70)]) ::
[])))
.skip)))
(.seq
(.seq
(.keep [4, 7, 10]
(.reg (oM 72 7 ::
oD 73 (.call false (.f 32) [(.t 72)]) ::
oM 12 73 ::
[])))
(.seq
(.reg (oM 74 12 ::
oD 75 (.bin .neq (.t 74) (cI 0)) ::
[]))
(.cond (.t 75)
(.seq
(.reg (oD 76 (.build [.int .i64 0, .imm (.int .u8) []] []) ::
oM 77 12 ::
oN (.store 2 (.t 4) (.t 76)) ::
oD 5 (.mov (cI 0)) ::
oM 6 77 ::
[]))
.ret)
.skip)))
(.seq
(.keep [4, 7, 10]
(.regD ((oD 78 (.load (some 2) (.t 10)), []) ::
(oM 79 7, [0]) ::
(oD 80 (.call false (.f 33) [(.t 79)]), [1]) ::
(oN (.store 2 (.t 4) (.t 78)), []) ::
(oM 5 80, []) ::
(oD 6 (.mov (cI 0)), []) ::
[])))
.ret)))))))))))
def rd_tlv_One : List RD := [.cell 4 (some 2) true [], .tmp 5 true none, .tmp 6 true none]
theorem ok_tlv_One : fnOk Tryz.prog Tryz.f193 ir_tlv_One rd_tlv_One = true := by kernel_rfl
def S_tlv_One : List AV → List Obj → Option (Prop × AV)
  | [.agg [.int .i64 least, .int .i64 step, .bool pad, .int .i64 bad, .int .i64 odd], .imm (.int .u8) b], [] => some ((pad = false ∧ (4 ≤ least ∧ least ≤ 60000 ∧ 1 ≤ step ∧ step ≤ 64 ∧ bad ≠ 0 ∧ odd ≠ 0) ∧ b.length ≤ 140737488355328, .tup [.agg [.int .i64 (tlI b least step bad (tT b)), .imm (.int .u8) (tlR b least step bad)], .int .i64 (tlI b least step bad (tN b)), .int .i64 (tlE b least step bad)]))
  | _, _ => none
theorem snd_tlv_One : SoundS Tryz.prog 193 (RoF S_tlv_One).sum := by
  refine ro_fn Tryz.func193 ok_tlv_One (env_cons (s := RoF S_tlv_Shape_may) snd_tlv_Shape_may (env_cons (s := RwF S_cursor_New) snd_cursor_New (env_cons (s := RwF S_cursor_Cursor_Row) snd_cursor_Cursor_Row (env_cons (s := RoF S_cursor_Cursor_Err) snd_cursor_Cursor_Err (env_cons (s := RoF S_tlv_Shape_fits) snd_tlv_Shape_fits (env_cons (s := RoF S_tlv_Shape_zeros) snd_tlv_Shape_zeros (env_cons (s := RwF S_cursor_Cursor_Bytes) snd_cursor_Cursor_Bytes (env_cons (s := RoF S_cursor_Cursor_At) snd_cursor_Cursor_At (env_nil _))))))))) fun args objs p v e => ?_
  unfold S_tlv_One at e
  split at e
  · rename_i least step pad bad odd b
    cases e
    refine ⟨rfl, fun hw ho hp => ?_⟩
    change List Int at b
    have hb : ∀ x ∈ (b : List Int), (0 : Int) ≤ x ∧ x ≤ 255 := fun x hx => (hw _ (by simp : AV.imm (.int .u8) b ∈ _)).1 x hx
    clear hw ho
    obtain ⟨rfl, hs, hl⟩ := hp
    have hs' := hs
    obtain ⟨h1, h2, h3, h4', h5, h6⟩ := hs'
    have hT : 0 ≤ tT b ∧ tT b ≤ 65535 := num2_le (a := 0) hb
    have hN : 0 ≤ tN b ∧ tN b ≤ 65535 := num2_le (a := 2) hb
    obtain ⟨c1, c2, c3⟩ := cur22 (b := b) (sh := bad) (od := odd)
    have hm := tmod_bd (a := tN b) (s := step) hN.1 h3
    by_cases h4 : b.length < 4
    · rw [if_pos h4] at c1 c2 c3
      have hE : tlE b least step bad = bad := if_pos h4
      repeat' (intro t ht; first | (cases t <;> first | (cases ht; done) | ((try simp only [bn_s] at ht); (try simp only [nd_s] at ht); (try (exfalso; first | contradiction | omega)))) | (refine ht ?_ ?_ <;> clear ht) | (refine ht.1 ?_ ?_ <;> clear ht) | (refine ht ?_; clear ht))
      all_goals (try simp only [c1, c2, c3, List.length_nil, not_true_eq_false] at *)
      all_goals first
        | exact True.intro
        | exact ⟨rfl, hs⟩
        | exact hs
        | omega
        | exact ⟨by omega, by omega, by omega⟩
        | (unfold tlI tlR; simp only [hE, if_neg h5]; first | done | exact ⟨rfl, by first | rfl | exact True.intro⟩ | exact ⟨trivial, trivial⟩)
        | (exfalso; omega)
        | trace_state
    · rw [if_neg h4] at c1 c2 c3
      have g0 : ∀ d : Int, [tT b, tN b].getD (Int.toNat 0) d = tT b := fun _ => rfl
      have g1 : ∀ d : Int, [tT b, tN b].getD (Int.toNat 1) d = tN b := fun _ => rfl
      have hok : 4 ≤ tN b → tN b ≤ b.length → takeE (tN b - 4) b 4 bad 0 = 0 ∧ takeL (tN b - 4) b 4 bad 0 = (b.take (tN b).toNat).drop 4 ∧ takeP (tN b - 4) b 4 bad 0 = tN b := fun q1 q2 => by
        have e : takeE (tN b - 4) b 4 bad 0 = 0 := by unfold takeE; rw [if_neg (by omega), if_neg (by omega)]
        refine ⟨e, ?_, ?_⟩
        · unfold takeL; rw [if_pos e]; congr 2; omega
        · unfold takeP; rw [if_pos e]; omega
      repeat' (intro t ht; first | (cases t <;> first | (cases ht; done) | ((try simp only [bn_s] at ht); (try simp only [nd_s] at ht); (try (exfalso; first | contradiction | omega)))) | (refine ht ?_ ?_ <;> clear ht) | (refine ht.1 ?_ ?_ <;> clear ht) | (refine ht ?_; clear ht))
      all_goals (try simp only [c1, c2, c3, g0, g1, List.length_cons, List.length_nil, not_true_eq_false] at *)
      all_goals first
        | exact True.intro
        | exact ⟨True.intro, h3⟩
        | exact hs
        | omega
        | exact ⟨by omega, by omega, by omega⟩
        | exact ⟨by omega, by omega, by omega, h5⟩
        | ((try simp only [nd_s, bn_s, mm_s] at *); omega)
        | (exfalso; omega)
        | (have hE : tlE b least step bad = bad := by
             unfold tlE; rw [if_neg h4]
             first
               | exact if_pos (by omega)
               | (by_cases hq : tN b < least ∨ ¬ (tN b).tmod step = 0
                  · exact if_pos hq
                  · rw [if_neg hq]; exact if_pos (by omega))
           unfold tlI tlR; simp only [hE, if_neg h5]; first | done | exact ⟨rfl, by first | rfl | exact True.intro⟩ | exact ⟨trivial, trivial⟩)
        | (obtain ⟨q1, q2, q3⟩ := hok (by omega) (by omega)
           first
             | exact absurd q1 (by assumption)
             | (have hE : tlE b least step bad = 0 := by
                  unfold tlE; rw [if_neg h4, if_neg (by omega)]; exact if_neg (by omega)
                unfold tlI tlR; simp only [hE, q2, q3, if_true]; first | done | exact ⟨rfl, by first | rfl | exact True.intro⟩ | exact ⟨trivial, trivial⟩))
        | trace_state
  · cases e
end Go.Eng
