/- Contracts of functions of the given program, told by plain Lean functions. No condition. -/
import Derived.Test.YtmbcgankddgpjaaGreatDoorProg
import Derived.Test.YtmbcgankddgpjaaGreatDoorEArg
import Derived.KernelRfl
import Derived.Test.YtmbcgankddgpjaaGreatDoorO2
namespace Go.Eng
open Go.Proofs
set_option linter.unusedVariables false
set_option linter.unusedSimpArgs false
set_option maxRecDepth 100000
set_option maxHeartbeats 1000000
theorem ref_fit {f : Int} {v : List Int} (h : refFitsF f v = true) : (v.length : Int) = sizeR f ∧ 0 ≤ bitsR f ∧ bitsR f ≤ 8 * sizeR f ∧ sizeR f ≤ 16 := by
  unfold refFitsF at h
  split at h
  · rename_i hh
    have hn := fIs_t.1 hh.1
    have := tab_le f.toNat (by omega)
    rw [Int.toNat_of_nonneg hn.1] at this
    omega
  · cases h
def refW (c f : Int) (h : Bool) (v m : List Int) : Int :=
  if c = 32768 ∧ refFitsF f v = false then 1032 else if h = true ∧ c = 32768 ∧ refFitsF f m = false then 1033
  else if h = true ∧ (zeroL m = true ∨ refO m (if c = 32768 then bitsR f else 8 * m.length).toNat 0 = true) then 1033 else if h = true ∧ inA v m = false then 1030 else 0
def ir_r08_Wrong : IR :=
(.seq
(.keep [0]
(.reg (oD 1 (.boxv (.t 0)) ::
oD 2 (.mov (cI 0)) ::
[])))
(.seq
(.keep [1]
(.reg (oD 7 (.fieldAddr 1 (.t 1)) ::
oL 8 7 ::
oD 9 (.call false (.f 133) [(.t 8)]) ::
oM 6 9 ::
oD 10 (.extract (.t 6) 0) ::
oD 11 (.extract (.t 6) 1) ::
oD 3 (.box [.str [], .int .i64 0, .int .i64 0, .kb false, .int .i64 0, .imm (.int .u64) []]) ::
oN (.store 6 (.t 3) (.t 10)) ::
oM 4 11 ::
[])))
(.seq
(.keep [1, 3]
(.reg (oD 12 (.fieldAddr 5 (.t 1)) ::
oL 13 12 ::
oD 14 (.len (.t 13)) ::
oD 15 (.bin .mul (cI 8) (.t 14)) ::
oM 5 15 ::
[])))
(.seq
(.seq
(.reg (oD 16 (.fieldAddr 0 (.t 1)) ::
oL 17 16 ::
oD 18 (.bin .eql (.t 17) (cI 32768)) ::
[]))
(.cond (.t 18)
(.seq
(.keep [1, 3]
(.reg (oD 19 (.fieldAddr 1 (.t 3)) ::
oL 20 19 ::
oM 5 20 ::
[])))
(.seq
(.seq
(.keep [1, 5]
(.reg (oD 21 (.fieldAddr 1 (.t 1)) ::
oL 22 21 ::
oD 23 (.fieldAddr 4 (.t 1)) ::
oL 24 23 ::
oD 25 (.call false (.f 174) [(.t 22), (.t 24)]) ::
oD 26 (.un .not (.t 25)) ::
[])))
(.cond (.t 26)
(.seq
(.keep []
(.reg (oD 2 (.mov (cI 1032)) ::
[])))
.ret)
.skip))
(.seq
(.keep [1, 5]
(.reg (oD 27 (.fieldAddr 2 (.t 1)) ::
oL 28 27 ::
oM 29 28 ::
oT 29 30 (.fieldAddr 1 (.t 1)) ::
oT 29 31 (.load none (.t 30)) ::
oT 29 32 (.fieldAddr 5 (.t 1)) ::
oT 29 33 (.load none (.t 32)) ::
oT 29 34 (.call false (.f 174) [(.t 31), (.t 33)]) ::
oT 29 35 (.un .not (.t 34)) ::
oD 36 (.pick (.t 29) (.t 35) cF) ::
[])))
(.cond (.t 36)
(.seq
(.keep []
(.reg (oD 2 (.mov (cI 1033)) ::
[])))
.ret)
.skip))))
.skip))
(.seq
(.seq
(.keep [1, 5]
(.reg (oD 37 (.fieldAddr 2 (.t 1)) ::
oL 38 37 ::
oM 39 38 ::
oT 39 40 (.fieldAddr 5 (.t 1)) ::
oT 39 41 (.load none (.t 40)) ::
oT 39 42 (.call false (.f 175) [(.t 41)]) ::
oT 39 43 (.mov (.t 42)) ::
oF 43 44 (.fieldAddr 5 (.t 1)) ::
oF 43 45 (.load none (.t 44)) ::
oF 43 46 (.mov (.t 5)) ::
oF 43 47 (.call false (.f 176) [(.t 45), (.t 46)]) ::
oT 39 48 (.pick (.t 43) cT (.t 47)) ::
oD 49 (.pick (.t 39) (.t 48) cF) ::
[])))
(.cond (.t 49)
(.seq
(.keep []
(.reg (oD 2 (.mov (cI 1033)) ::
[])))
.ret)
.skip))
(.seq
(.seq
(.keep [1]
(.reg (oD 50 (.fieldAddr 2 (.t 1)) ::
oL 51 50 ::
oM 52 51 ::
oT 52 53 (.fieldAddr 4 (.t 1)) ::
oT 52 54 (.load none (.t 53)) ::
oT 52 55 (.fieldAddr 5 (.t 1)) ::
oT 52 56 (.load none (.t 55)) ::
oT 52 57 (.call false (.f 177) [(.t 54), (.t 56)]) ::
oT 52 58 (.un .not (.t 57)) ::
oD 59 (.pick (.t 52) (.t 58) cF) ::
[])))
(.cond (.t 59)
(.seq
(.keep []
(.reg (oD 2 (.mov (cI 1030)) ::
[])))
.ret)
.skip))
(.seq
(.keep []
(.reg (oD 2 (.mov (cI 0)) ::
[])))
.ret)))))))
def rd_r08_Wrong : List RD := [.tmp 2 true none]
theorem ok_r08_Wrong : fnOk Tryz.prog Tryz.f134 ir_r08_Wrong rd_r08_Wrong = true := by kernel_rfl
def S_r08_Wrong : List AV → List Obj → Option (Prop × AV)
  | [.agg [.int .i64 c, .int .i64 f, .bool h, .int .u64 x, .imm (.int .u8) v, .imm (.int .u8) m]], [] => some (((h = true → c ≠ 32768 → v.length ≤ m.length) ∧ m.length ≤ 100000, .int .i64 (refW c f h v m)))
  | _, _ => none
theorem snd_r08_Wrong : SoundS Tryz.prog 134 (RoF S_r08_Wrong).sum := by
  refine ro_fn Tryz.func134 ok_r08_Wrong (env_cons (s := RoF S_r07_Of) snd_r07_Of (env_cons (s := RoF S_r07_Fits) snd_r07_Fits (env_cons (s := RoF S_r08_zeros) snd_r08_zeros (env_cons (s := RoF S_r08_ones) snd_r08_ones (env_cons (s := RoF S_r08_inside) snd_r08_inside (env_nil _)))))) fun args objs p v e => ?_
  unfold S_r08_Wrong at e
  split at e
  · rename_i c f h x v m
    cases e
    refine ⟨rfl, fun hw ho hp => ?_⟩
    change List Int at v
    change List Int at m
    have hfv := ref_fit (f := f) (v := v)
    have hfm := ref_fit (f := f) (v := m)
    cases h <;> by_cases hc : c = 32768
    all_goals repeat' (intro t ht; first | (cases t <;> first | (cases ht; done) | ((try simp only [bn_s] at ht); (try simp only [nd_s] at ht))) | (refine ht ?_ ?_ <;> clear ht) | (refine ht.1 ?_ ?_ <;> clear ht) | (refine ht ?_; clear ht))
    all_goals first
      | exact True.intro
      | contradiction
      | ((try simp only [nd_s, bn_s, mm_s] at *); omega)
      | (have h1 := hfm (by assumption); (try simp only [nd_s, bn_s, mm_s] at *); omega)
      | (have h1 := hfm (by assumption); have h2 := hfv (by assumption); (try simp only [nd_s, bn_s, mm_s] at *); omega)
      | (have h1 := hp.1 rfl (by assumption); exact h1)
      | (unfold refW; simp_all; done)
      | trace_state
  · cases e
def refR (c f : Int) (h : Bool) (x : Int) (v m : List Int) : Bool :=
  if (h = false ∧ 0 < m.length) ∨ (h = true ∧ ¬ (m.length : Int) = v.length) then false
  else if c = 32768 then fIs f && decide (x = 0) && (!h || maskR f) && decide (refW c f h v m = 0)
  else decide (c = 65535) && decide (0 ≤ f) && decide (f ≤ 127) && decide (x < 4294967296) && decide ((v.length : Int) ≤ 100) && decide (refW c f h v m = 0)
def ir_r08_Right : IR :=
(.seq
(.keep [0]
(.reg (oD 1 (.boxv (.t 0)) ::
oD 2 (.mov cF) ::
[])))
(.seq
(.seq
(.keep [1]
(.reg (oD 5 (.fieldAddr 2 (.t 1)) ::
oL 6 5 ::
oD 7 (.un .not (.t 6)) ::
oM 8 7 ::
oT 8 9 (.fieldAddr 5 (.t 1)) ::
oT 8 10 (.load none (.t 9)) ::
oT 8 11 (.len (.t 10)) ::
oT 8 12 (.bin .gtr (.t 11) (cI 0)) ::
oD 13 (.pick (.t 8) (.t 12) cF) ::
oM 14 13 ::
oF 14 15 (.fieldAddr 2 (.t 1)) ::
oF 14 16 (.load none (.t 15)) ::
oF 14 17 (.mov (.t 16)) ::
oT 17 18 (.fieldAddr 5 (.t 1)) ::
oT 17 19 (.load none (.t 18)) ::
oT 17 20 (.len (.t 19)) ::
oT 17 21 (.fieldAddr 4 (.t 1)) ::
oT 17 22 (.load none (.t 21)) ::
oT 17 23 (.len (.t 22)) ::
oT 17 24 (.bin .neq (.t 20) (.t 23)) ::
oF 14 25 (.pick (.t 17) (.t 24) cF) ::
oD 26 (.pick (.t 14) cT (.t 25)) ::
[])))
(.cond (.t 26)
(.seq
(.keep []
(.reg (oD 2 (.mov cF) ::
[])))
.ret)
.skip))
(.seq
(.seq
(.keep [1]
(.reg (oD 27 (.fieldAddr 0 (.t 1)) ::
oL 28 27 ::
oD 29 (.bin .eql (.t 28) (cI 32768)) ::
[])))
(.cond (.t 29)
(.seq
(.keep [1]
(.reg (oD 31 (.fieldAddr 1 (.t 1)) ::
oL 32 31 ::
oD 33 (.call false (.f 133) [(.t 32)]) ::
oM 30 33 ::
oD 34 (.extract (.t 30) 0) ::
oD 35 (.extract (.t 30) 1) ::
oD 3 (.box [.str [], .int .i64 0, .int .i64 0, .kb false, .int .i64 0, .imm (.int .u64) []]) ::
oN (.store 6 (.t 3) (.t 34)) ::
oM 4 35 ::
[])))
(.seq
(.keep [1, 3, 4]
(.reg (oM 36 4 ::
oM 37 36 ::
oT 37 38 (.fieldAddr 3 (.t 1)) ::
oT 37 39 (.load none (.t 38)) ::
oT 37 40 (.bin .eql (.t 39) (.c (.int .u64 0))) ::
oD 41 (.pick (.t 37) (.t 40) cF) ::
oM 42 41 ::
oT 42 43 (.fieldAddr 2 (.t 1)) ::
oT 42 44 (.load none (.t 43)) ::
oT 42 45 (.un .not (.t 44)) ::
oT 42 46 (.mov (.t 45)) ::
oF 46 47 (.fieldAddr 3 (.t 3)) ::
oF 46 48 (.load none (.t 47)) ::
oT 42 49 (.pick (.t 46) cT (.t 48)) ::
oD 50 (.pick (.t 42) (.t 49) cF) ::
oM 51 50 ::
oT 51 52 (.load (some 6) (.t 1)) ::
oT 51 53 (.call false (.f 134) [(.t 52)]) ::
oT 51 54 (.bin .eql (.t 53) (cI 0)) ::
oD 55 (.pick (.t 51) (.t 54) cF) ::
oM 2 55 ::
[])))
.ret))
.skip))
(.seq
(.keep [1]
(.reg (oD 56 (.fieldAddr 0 (.t 1)) ::
oL 57 56 ::
oD 58 (.bin .eql (.t 57) (cI 65535)) ::
oM 59 58 ::
oT 59 60 (.fieldAddr 1 (.t 1)) ::
oT 59 61 (.load none (.t 60)) ::
oT 59 62 (.bin .geq (.t 61) (cI 0)) ::
oD 63 (.pick (.t 59) (.t 62) cF) ::
oM 64 63 ::
oT 64 65 (.fieldAddr 1 (.t 1)) ::
oT 64 66 (.load none (.t 65)) ::
oT 64 67 (.bin .leq (.t 66) (cI 127)) ::
oD 68 (.pick (.t 64) (.t 67) cF) ::
oM 69 68 ::
oT 69 70 (.fieldAddr 3 (.t 1)) ::
oT 69 71 (.load none (.t 70)) ::
oT 69 72 (.bin .lss (.t 71) (.c (.int .u64 4294967296))) ::
oD 73 (.pick (.t 69) (.t 72) cF) ::
oM 74 73 ::
oT 74 75 (.fieldAddr 4 (.t 1)) ::
oT 74 76 (.load none (.t 75)) ::
oT 74 77 (.len (.t 76)) ::
oT 74 78 (.bin .leq (.t 77) (cI 100)) ::
oD 79 (.pick (.t 74) (.t 78) cF) ::
oM 80 79 ::
oT 80 81 (.load (some 6) (.t 1)) ::
oT 80 82 (.call false (.f 134) [(.t 81)]) ::
oT 80 83 (.bin .eql (.t 82) (cI 0)) ::
oD 84 (.pick (.t 80) (.t 83) cF) ::
oM 2 84 ::
[])))
.ret))))
def rd_r08_Right : List RD := [.tmp 2 true none]
theorem ok_r08_Right : fnOk Tryz.prog Tryz.f117 ir_r08_Right rd_r08_Right = true := by kernel_rfl
def S_r08_Right : List AV → List Obj → Option (Prop × AV)
  | [.agg [.int .i64 c, .int .i64 f, .bool h, .int .u64 x, .imm (.int .u8) v, .imm (.int .u8) m]], [] => some ((m.length ≤ 100000, .bool (refR c f h x v m)))
  | _, _ => none
theorem snd_r08_Right : SoundS Tryz.prog 117 (RoF S_r08_Right).sum := by
  refine ro_fn Tryz.func117 ok_r08_Right (env_cons (s := RoF S_r07_Of) snd_r07_Of (env_cons (s := RoF S_r08_Wrong) snd_r08_Wrong (env_nil _))) fun args objs p v e => ?_
  unfold S_r08_Right at e
  split at e
  · rename_i c f h x v m
    cases e
    refine ⟨rfl, fun hw ho hp => ?_⟩
    change List Int at v
    change List Int at m
    have hm : m.length ≤ maxLen := (hw _ (List.mem_cons_self ..) (.imm (.int .u8) m) (by simp)).2
    have hv : v.length ≤ maxLen := (hw _ (List.mem_cons_self ..) (.imm (.int .u8) v) (by simp)).2
    unfold maxLen at hm hv
    cases h <;> by_cases hc : c = 32768
    all_goals repeat' (intro t ht; first | (cases t <;> first | (cases ht; done) | ((try simp only [bn_s] at ht); (try simp only [nd_s] at ht))) | (refine ht ?_ ?_ <;> clear ht) | (refine ht.1 ?_ ?_ <;> clear ht) | (refine ht ?_; clear ht))
    all_goals first
      | exact True.intro
      | contradiction
      | (refine ⟨fun h1 h2 => ?_, ?_⟩ <;> first | omega | (cases h1; done))
      | ((try simp only [nd_s, bn_s, mm_s] at *); omega)
      | (unfold refR; simp_all; done)
      | (unfold refR; simp_all; omega)
      | trace_state
  · cases e
def bodyR (c x : Int) (v m : List Int) : List Int := (if c = 65535 then bytesN x 4 else []) ++ v ++ m
def refB (c f : Int) (h : Bool) (x : Int) (v m : List Int) : List Int := bytesN c 2 ++ [2 * f + if h = true then 1 else 0, ((bodyR c x v m).length : Int)] ++ bodyR c x v m
def ir_r08_Bytes : IR :=
(.seq
(.keep [0]
(.reg (oD 1 (.boxv (.t 0)) ::
oD 2 (.nilrow (.int .u8)) ::
[])))
(.seq
(.reg (oD 3 (.nilrow (.int .u8)) ::
[]))
(.seq
(.seq
(.reg (oD 5 (.fieldAddr 0 (.t 1)) ::
oL 6 5 ::
oD 7 (.bin .eql (.t 6) (cI 65535)) ::
[]))
(.cond (.t 7)
(.keep [1]
(.reg (oD 8 (.fieldAddr 3 (.t 1)) ::
oL 9 8 ::
oD 10 (.call false (.f 119) [(.t 9), (cI 4)]) ::
oM 3 10 ::
[])))
.skip))
(.seq
(.keep [1, 3]
(.regD ((oM 11 3, []) ::
(oD 12 (.fieldAddr 4 (.t 1)), [0]) ::
(oL 13 12, [1]) ::
(oD 14 (.append (.int .u8) 1 (.t 11) (.t 13)), []) ::
(oD 15 (.fieldAddr 5 (.t 1)), [0, 0, 0, 0]) ::
(oL 16 15, [1, 0, 0, 0]) ::
(oD 17 (.append (.int .u8) 1 (.t 14) (.t 16)), []) ::
(oM 3 17, []) ::
[])))
(.seq
(.keep [1, 3]
(.reg (oD 18 (.fieldAddr 1 (.t 1)) ::
oL 19 18 ::
oD 20 (.bin .mul (cI 2) (.t 19)) ::
oM 4 20 ::
[])))
(.seq
(.seq
(.reg (oD 21 (.fieldAddr 2 (.t 1)) ::
oL 22 21 ::
[]))
(.cond (.t 22)
(.keep [1, 3, 4]
(.reg (oM 23 4 ::
oD 24 (.bin .add (.t 23) (cI 1)) ::
oM 4 24 ::
[])))
.skip))
(.seq
(.keep [1, 3, 4]
(.reg (oD 25 (.fieldAddr 0 (.t 1)) ::
oL 26 25 ::
oD 27 (.conv .u64 (.t 26)) ::
oD 28 (.call false (.f 119) [(.t 27), (cI 2)]) ::
oM 29 4 ::
oD 30 (.conv .u8 (.t 29)) ::
oM 31 3 ::
oD 32 (.len (.t 31)) ::
oD 33 (.conv .u8 (.t 32)) ::
oD 34 (.sliceAll (.int .u8) 2 [(0, 1, (.t 30)), (1, 1, (.t 33))]) ::
oD 35 (.append (.int .u8) 1 (.t 28) (.t 34)) ::
oM 36 3 ::
oD 37 (.append (.int .u8) 1 (.t 35) (.t 36)) ::
oM 2 37 ::
[])))
.ret)))))))
def rd_r08_Bytes : List RD := [.tmp 2 true (some (.int .u8))]
theorem ok_r08_Bytes : fnOk Tryz.prog Tryz.f118 ir_r08_Bytes rd_r08_Bytes = true := by kernel_rfl
def S_r08_Bytes : List AV → List Obj → Option (Prop × AV)
  | [.agg [.int .i64 c, .int .i64 f, .bool h, .int .u64 x, .imm (.int .u8) v, .imm (.int .u8) m]], [] => some ((0 ≤ f ∧ f ≤ 127 ∧ 0 ≤ c ∧ c ≤ 65535 ∧ v.length ≤ 100 ∧ m.length ≤ 100, .imm (.int .u8) (refB c f h x v m)))
  | _, _ => none
theorem snd_r08_Bytes : SoundS Tryz.prog 118 (RoF S_r08_Bytes).sum := by
  refine ro_fn Tryz.func118 ok_r08_Bytes (env_cons (s := RwF S_r01_Num) snd_r01_Num (env_nil _)) fun args objs p v e => ?_
  unfold S_r08_Bytes at e
  split at e
  · rename_i c f h x v m
    cases e
    refine ⟨rfl, fun hw ho hp => ?_⟩
    change List Int at v
    change List Int at m
    have hx := bytesN_len (n := x) (w := 4) (by decide)
    have hc2 := bytesN_len (n := c) (w := 2) (by decide)
    cases h <;> by_cases hc : c = 65535
    all_goals repeat' (intro t ht; first | (cases t <;> first | (cases ht; done) | ((try simp only [bn_s] at ht); (try simp only [nd_s] at ht))) | (refine ht ?_ ?_ <;> clear ht) | (refine ht.1 ?_ ?_ <;> clear ht) | (refine ht ?_; clear ht))
    all_goals first
      | exact True.intro
      | exact (by decide)
      | contradiction
      | ((try simp only [nd_s, bn_s, mm_s] at *); omega)
      | (simp only [List.length_append, List.length_cons, List.length_nil, cast_rfl]; (try simp only [nd_s, bn_s, mm_s] at *); omega)
      | (unfold refB bodyR; simp_all; done)
      | trace_state
  · cases e
end Go.Eng
