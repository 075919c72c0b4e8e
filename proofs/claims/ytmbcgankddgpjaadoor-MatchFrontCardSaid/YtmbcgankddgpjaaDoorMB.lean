/- Contracts of functions of the given program, told by plain Lean functions. No condition. -/
import Derived.Test.YtmbcgankddgpjaaDoorProg
import Derived.Test.YtmbcgankddgpjaaDoorEArg
import Derived.KernelRfl
import Derived.Test.YtmbcgankddgpjaaDoorM9
import Derived.Test.YtmbcgankddgpjaaDoorMA
namespace Go.Eng
open Go.Proofs
set_option linter.unusedVariables false
set_option linter.unusedSimpArgs false
set_option maxRecDepth 100000
set_option maxHeartbeats 1000000
def ir_l10_MatchBack : IR :=
(.seq
(.keep [0, 1]
(.reg (oD 4 (.mov cF) ::
[])))
(.seq
(.seq
(.keep [0, 1]
(.reg (oM 18 0 ::
oD 19 (.call false (.f 14) [(.t 18)]) ::
oD 20 (.un .not (.t 19)) ::
oM 21 20 ::
oF 21 22 (.mov (.t 1)) ::
oF 21 23 (.len (.t 22)) ::
oF 21 24 (.bin .gtr (.t 23) (cI 1500)) ::
oD 25 (.pick (.t 21) cT (.t 24)) ::
[])))
(.cond (.t 25)
(.seq
(.keep []
(.reg (oD 26 (.call false (.f 15) []) ::
oM 4 26 ::
[])))
.ret)
.skip))
(.seq
(.seq
(.keep [0, 1]
(.reg (oM 28 0 ::
oD 29 (.call false (.f 16) [(.t 28)]) ::
oM 27 29 ::
oD 30 (.extract (.t 27) 0) ::
oD 31 (.extract (.t 27) 1) ::
oM 5 30 ::
oM 6 31 ::
[])))
(.seq
(.keep [0, 1, 5, 6]
(.reg (oM 32 6 ::
oD 33 (.bin .eql (.t 32) (cI 0)) ::
[])))
(.cond (.t 33)
(.seq
(.keep [0, 1, 5]
(.reg (oD 35 (.slice0 (.int .u8)) ::
oM 36 5 ::
oD 37 (.append (.int .u8) 1 (.t 35) (.t 36)) ::
oM 38 1 ::
oD 39 (.append (.int .u8) 1 (.t 37) (.t 38)) ::
oD 40 (.call false (.f 17) [(.t 39)]) ::
oM 34 40 ::
oD 41 (.extract (.t 34) 0) ::
oD 42 (.extract (.t 34) 1) ::
oD 43 (.extract (.t 34) 2) ::
oM 7 41 ::
oM 8 42 ::
oM 9 43 ::
[])))
(.seq
(.seq
(.keep [0, 1, 5, 7, 8, 9]
(.reg (oM 44 9 ::
oD 45 (.bin .neq (.t 44) (cI 0)) ::
oM 46 45 ::
oF 46 47 (.mov (.t 8)) ::
oF 46 48 (.mov (.t 5)) ::
oF 46 49 (.len (.t 48)) ::
oF 46 50 (.bin .neq (.t 47) (.t 49)) ::
oD 51 (.pick (.t 46) cT (.t 50)) ::
oM 52 51 ::
oF 52 53 (.mov (.t 8)) ::
oF 52 54 (.bin .rem (.t 53) (cI 8)) ::
oF 52 55 (.bin .neq (.t 54) (cI 0)) ::
oD 56 (.pick (.t 52) cT (.t 55)) ::
oM 57 56 ::
oF 57 58 (.mov (.t 0)) ::
oF 57 59 (.mov (.t 7)) ::
oF 57 60 (.call false (.f 18) [(.t 58), (.t 59)]) ::
oF 57 61 (.un .not (.t 60)) ::
oD 62 (.pick (.t 57) cT (.t 61)) ::
[])))
(.cond (.t 62)
(.seq
(.keep []
(.reg (oD 4 (.mov cF) ::
[])))
.ret)
.skip))
(.seq
(.keep [1, 5]
(.reg (oM 64 5 ::
oM 65 5 ::
oD 66 (.len (.t 65)) ::
oD 67 (.bin .sub (.t 66) (cI 1)) ::
oD 68 (.slice 1 (.t 64) none (some (.t 67)) none) ::
oD 69 (.call false (.f 17) [(.t 68)]) ::
oM 63 69 ::
oD 70 (.extract (.t 63) 0) ::
oD 71 (.extract (.t 63) 1) ::
oD 72 (.extract (.t 63) 2) ::
oM 10 70 ::
oM 11 71 ::
oM 12 72 ::
[])))
(.seq
(.keep [1, 12]
(.reg (oM 73 12 ::
oD 74 (.bin .neq (.t 73) (cI 1026)) ::
[])))
(.cond (.t 74)
(.seq
(.reg (oD 4 (.mov cF) ::
[]))
.ret)
.skip)))))
.skip)))
(.seq
(.keep [1]
(.reg (oM 76 1 ::
oD 77 (.call false (.f 17) [(.t 76)]) ::
oM 75 77 ::
oD 78 (.extract (.t 75) 0) ::
oD 79 (.extract (.t 75) 1) ::
oD 80 (.extract (.t 75) 2) ::
oM 13 78 ::
oM 14 79 ::
oM 15 80 ::
[])))
(.seq
(.seq
(.keep [1, 13, 14, 15]
(.reg (oM 81 15 ::
oD 82 (.bin .neq (.t 81) (cI 0)) ::
[])))
(.cond (.t 82)
(.seq
(.keep [13, 14]
(.reg (oM 83 14 ::
oD 84 (.bin .eql (.t 83) (cI 0)) ::
oM 85 84 ::
oT 85 86 (.mov (.t 13)) ::
oT 85 87 (.len (.t 86)) ::
oT 85 88 (.bin .eql (.t 87) (cI 0)) ::
oD 89 (.pick (.t 85) (.t 88) cF) ::
oM 90 89 ::
oT 90 91 (.call false (.f 15) []) ::
oD 92 (.pick (.t 90) (.t 91) cF) ::
oM 4 92 ::
[])))
.ret)
.skip))
(.seq
(.keep [1, 13, 14]
(.reg (oM 94 13 ::
oD 95 (.call false (.f 16) [(.t 94)]) ::
oM 93 95 ::
oD 96 (.extract (.t 93) 0) ::
oD 97 (.extract (.t 93) 1) ::
oM 16 96 ::
oM 17 97 ::
[])))
(.seq
(.keep [1, 13, 14, 16, 17]
(.reg (oM 98 17 ::
oD 99 (.bin .eql (.t 98) (cI 0)) ::
oM 100 99 ::
oT 100 101 (.mov (.t 13)) ::
oT 100 102 (.call false (.f 19) [(.t 101)]) ::
oD 103 (.pick (.t 100) (.t 102) cF) ::
oM 104 103 ::
oT 104 105 (.mov (.t 14)) ::
oT 104 106 (.mov (.t 1)) ::
oT 104 107 (.len (.t 106)) ::
oT 104 108 (.bin .leq (.t 105) (.t 107)) ::
oD 109 (.pick (.t 104) (.t 108) cF) ::
oM 110 109 ::
oT 110 111 (.mov (.t 16)) ::
oT 110 112 (.mov (.t 1)) ::
oT 110 113 (.mov (.t 14)) ::
oT 110 114 (.slice 1 (.t 112) none (some (.t 113)) none) ::
oT 110 115 (.call false (.f 20) [(.t 111), (.t 114)]) ::
oD 116 (.pick (.t 110) (.t 115) cF) ::
oM 117 116 ::
oT 117 118 (.call false (.f 15) []) ::
oD 119 (.pick (.t 117) (.t 118) cF) ::
oM 4 119 ::
[])))
.ret)))))))
def rd_l10_MatchBack : List RD := [.tmp 4 true none]
theorem ok_l10_MatchBack : fnOk Tryd.prog Tryd.f5 ir_l10_MatchBack rd_l10_MatchBack = true := by kernel_rfl
def S_l10_MatchBack : List AV → List Obj → Option (Prop × AV)
  | [.imm (.cons (.int .i64) (.cons (.int .i64) (.cons .bool (.cons (.int .u64) (.cons (.sl (.int .u8)) (.cons (.sl (.int .u8)) .nil)))))) l, .imm (.int .u8) b], [] => some ((True, .bool true))
  | _, _ => none
theorem snd_l10_MatchBack : SoundS Tryd.prog 5 (RoF S_l10_MatchBack).sum := by
  refine ro_fn Tryd.func5 ok_l10_MatchBack (env_cons (s := RoF S_r09_Few) snd_r09_Few (env_cons (s := RoF S_l10_sure) snd_l10_sure (env_cons (s := RoF S_match_Encode) snd_match_Encode (env_cons (s := RoF S_match_Decode) snd_match_Decode (env_cons (s := RoF S_r09_Same) snd_r09_Same (env_cons (s := RoF S_match_Right) snd_match_Right (env_cons (s := RoF S_r01_Bytes) snd_r01_Bytes (env_nil _)))))))) fun args objs p v e => ?_
  unfold S_l10_MatchBack at e
  split at e
  · rename_i l b
    cases e
    refine ⟨rfl, fun hw ho hp => ?_⟩
    change List Int at b
    change List OV at l
    have hb : ∀ z ∈ (b : List Int), (0 : Int) ≤ z ∧ z ≤ 255 := fun z hz => (hw (.imm (.int .u8) b) (by simp)).1 z hz
    have hby := oxm_wf (l := l) (hw (.imm (.cons (.int .i64) (.cons (.int .i64) (.cons .bool (.cons (.int .u64) (.cons (.sl (.int .u8)) (.cons (.sl (.int .u8)) .nil)))))) l) (by simp))
    clear hw ho
    by_cases hc : fewO l = true ∧ b.length ≤ 1500
    · obtain ⟨hf, c2⟩ := hc
      obtain ⟨hok, _⟩ := few_ok hf
      have hx : ∀ o ∈ l, 0 ≤ o.2.2.2.1 := fun o ho => (hby o ho).1
      have hlen : rgM l = true → 8 ≤ (meB l).length ∧ (meB l).length % 8 = 0 ∧ (meB l).length ≤ 65536 := fun hr => by
        obtain ⟨h1, h2, h3, h4, h5⟩ := rgM_parts hr
        have hz := pz_le (n := meN l) (by omega)
        have hml := meB_len l (by omega)
        omega
      cases hr : rgM l with
      | false =>
        have e1 : meL l = [] := by unfold meL; rw [hr]; rfl
        have e2 : meE l = 10001 := by unfold meE; rw [hr]; rfl
        by_cases h0 : mdE b = 0
        · obtain ⟨d1, d2, d3, d4⟩ := md_dec hb h0
          have hok2 := rg_ok d1
          have e3 : meL (mdL b) = meB (mdL b) := if_pos d1
          have e4 : meE (mdL b) = 0 := if_pos d1
          repeat' (intro t ht; first | (cases t <;> first | (cases ht; done) | ((try simp only [bn_s] at ht); (try simp only [nd_s] at ht))) | (refine ht ?_ ?_ <;> clear ht) | (refine ht.1 ?_ ?_ <;> clear ht) | (refine ht ?_; clear ht))
          all_goals (try simp only [hf, hr, e1, e2, e3, e4, h0, d1, d2] at *)
          all_goals first
            | exact True.intro
            | contradiction
            | exact hok
            | exact hok2
            | omega
            | exact ⟨rfl, by first | rfl | exact True.intro⟩
            | exact ⟨True.intro, True.intro⟩
            | (exfalso; omega)
            | (constructor <;> omega)
            | (exfalso; simp_all; done)
            | trace_state
        · obtain ⟨m1, m2⟩ := md_bad (b := b) rfl h0
          repeat' (intro t ht; first | (cases t <;> first | (cases ht; done) | ((try simp only [bn_s] at ht); (try simp only [nd_s] at ht))) | (refine ht ?_ ?_ <;> clear ht) | (refine ht.1 ?_ ?_ <;> clear ht) | (refine ht ?_; clear ht))
          all_goals (try simp only [hf, hr, e1, e2, h0, m1, m2] at *)
          all_goals first
            | exact True.intro
            | contradiction
            | exact hok
            | omega
            | exact ⟨rfl, by first | rfl | exact True.intro⟩
            | exact ⟨True.intro, True.intro⟩
            | (exfalso; omega)
            | (exfalso; simp_all; done)
            | trace_state
      | true =>
        have e1 : meL l = meB l := if_pos hr
        have e2 : meE l = 0 := if_pos hr
        obtain ⟨g1, g2, g3⟩ := md_enc (b := b) hr hx
        have g4 := md_cut hr
        obtain ⟨l1, l2, l3⟩ := hlen hr
        obtain ⟨E, hE⟩ : ∃ E, meB l = E := ⟨_, rfl⟩
        rw [hE] at e1 g1 g2 g3 g4 l1 l2 l3
        have hct : E.take ((E.length : Int) - 1).toNat = E.take (E.length - 1) := by rw [show ((E.length : Int) - 1).toNat = E.length - 1 by omega]
        have l8 : (E.length : Int).tmod 8 = 0 := by rw [Int.tmod_eq_emod_of_nonneg (by omega)]; omega
        by_cases h0 : mdE b = 0
        · obtain ⟨d1, d2, d3, d4⟩ := md_dec hb h0
          have hok2 := rg_ok d1
          have e3 : meL (mdL b) = meB (mdL b) := if_pos d1
          have e4 : meE (mdL b) = 0 := if_pos d1
          repeat' (intro t ht; first | (cases t <;> first | (cases ht; done) | ((try simp only [bn_s] at ht); (try simp only [nd_s] at ht))) | (refine ht ?_ ?_ <;> clear ht) | (refine ht.1 ?_ ?_ <;> clear ht) | (refine ht ?_; clear ht))
          all_goals (try simp only [cast_rfl, List.nil_append, hf, hr, e1, e2, e3, e4, h0, d1, d2, g1, g2, g3, l8, hct, g4] at *)
          all_goals first
            | exact True.intro
            | contradiction
            | exact hok
            | exact hok2
            | omega
            | exact ⟨rfl, by first | rfl | exact True.intro⟩
            | exact ⟨True.intro, True.intro⟩
            | (exfalso; omega)
            | (constructor <;> omega)
            | (simp only [List.length_append, List.length_nil, List.length_take] at *; omega)
            | (simp only [List.length_append, List.length_nil, List.length_take] at *; constructor <;> omega)
            | ((try simp only [nd_s, bn_s, mm_s] at *); omega)
            | (exfalso; simp_all; done)
            | trace_state
        · obtain ⟨m1, m2⟩ := md_bad (b := b) rfl h0
          repeat' (intro t ht; first | (cases t <;> first | (cases ht; done) | ((try simp only [bn_s] at ht); (try simp only [nd_s] at ht))) | (refine ht ?_ ?_ <;> clear ht) | (refine ht.1 ?_ ?_ <;> clear ht) | (refine ht ?_; clear ht))
          all_goals (try simp only [cast_rfl, List.nil_append, hf, hr, e1, e2, h0, m1, m2, g1, g2, g3, l8, hct, g4] at *)
          all_goals first
            | exact True.intro
            | contradiction
            | exact hok
            | omega
            | exact ⟨rfl, by first | rfl | exact True.intro⟩
            | exact ⟨True.intro, True.intro⟩
            | (exfalso; omega)
            | (constructor <;> omega)
            | (simp only [List.length_append, List.length_nil, List.length_take] at *; omega)
            | (simp only [List.length_append, List.length_nil, List.length_take] at *; constructor <;> omega)
            | ((try simp only [nd_s, bn_s, mm_s] at *); omega)
            | (exfalso; simp_all; done)
            | trace_state
    · repeat' (intro t ht; first | (cases t <;> first | (cases ht; done) | ((try simp only [bn_s] at ht); (try simp only [nd_s] at ht); (try (exfalso; first | contradiction | omega)))) | (refine ht ?_ ?_ <;> clear ht) | (refine ht.1 ?_ ?_ <;> clear ht) | (refine ht ?_; clear ht))
      all_goals first
        | exact True.intro
        | exact ⟨rfl, rfl⟩
        | (exfalso; apply hc; constructor <;> first | assumption | omega)
        | (exfalso; simp_all; done)
        | trace_state
  · cases e
theorem meB_get {l : List OV} (h : rgM l = true) : (meB l).getD 2 0 * 256 + (meB l).getD 3 0 = meN l ∧ ((meB l).take (meN l).toNat).drop 4 = boO l := by
  obtain ⟨h1, h2, h3, h4, h5⟩ := rgM_parts h
  have hbo : meN l = 4 + ((boO l).length : Int) := rfl
  have e : meB l = bytesN 1 2 ++ bytesN (meN l) 2 ++ boO l ++ List.replicate (pz (meN l)).toNat 0 := rfl
  have l2 : (bytesN 1 2).length = 2 := by have := bytesN_len (n := 1) (w := 2) (by decide); omega
  have l3 : (bytesN (meN l) 2).length = 2 := by have := bytesN_len (n := meN l) (w := 2) (by decide); omega
  constructor
  · have a2 : bytesN (meN l) 2 = [meN l / 256 % 256, meN l % 256] := by rw [at2, Int.fdiv_eq_ediv_of_nonneg _ (by decide)]
    have a1 := at2 1
    rw [e, a1, a2]
    show meN l / 256 % 256 * 256 + meN l % 256 = meN l
    omega
  · rw [e, List.take_left' (by simp only [List.length_append]; omega)]
    exact List.drop_left' (by rw [List.length_append]; omega)
theorem front_bo {l : List OV} {k : Nat} (h : rgM l = true) : ((meB l).take (meN (l.take k)).toNat).drop 4 = boO (l.take k) ∧ (meB (l.take k)).length ≤ (meB l).length ∧ meN (l.take k) ≤ (meB (l.take k)).length ∧ 4 ≤ meN (l.take k) ∧ 8 ≤ (meB (l.take k)).length ∧ (meB l).length ≤ 65536 := by
  obtain ⟨h1, h2, h3, h4, h5⟩ := rgM_parts h
  obtain ⟨f1, f2, f3, f4, f5⟩ := rgM_parts (rg_front (k := k) h)
  have hb : boO l = boO (l.take k) ++ boO (l.drop k) := by unfold boO; rw [← List.flatMap_append, List.take_append_drop]
  have hN : meN l = 4 + ((boO l).length : Int) := rfl
  have hN2 : meN (l.take k) = 4 + ((boO (l.take k)).length : Int) := rfl
  have hl := congrArg List.length hb
  rw [List.length_append] at hl
  have hz := pz_le (n := meN l) (by omega)
  have hz2 := pz_le (n := meN (l.take k)) (by omega)
  have hml := meB_len l (by omega)
  have hml2 := meB_len (l.take k) (by omega)
  refine ⟨?_, by omega, by omega, by omega, by omega, by omega⟩
  have l2 : (bytesN 1 2).length = 2 := by have := bytesN_len (n := 1) (w := 2) (by decide); omega
  have l3 : (bytesN (meN l) 2).length = 2 := by have := bytesN_len (n := meN l) (w := 2) (by decide); omega
  have e : meB l = bytesN 1 2 ++ bytesN (meN l) 2 ++ boO (l.take k) ++ (boO (l.drop k) ++ List.replicate (pz (meN l)).toNat 0) := by unfold meB; rw [hb]; simp only [List.append_assoc]
  rw [e, List.take_left' (by simp only [List.length_append]; omega)]
  exact List.drop_left' (by rw [List.length_append]; omega)
def ir_l10_MatchFront : IR :=
(.seq
(.keep [0, 1]
(.reg (oD 4 (.mov cF) ::
[])))
(.seq
(.seq
(.keep [0, 1]
(.reg (oM 11 0 ::
oD 12 (.call false (.f 14) [(.t 11)]) ::
oD 13 (.un .not (.t 12)) ::
oM 14 13 ::
oF 14 15 (.mov (.t 0)) ::
oF 14 16 (.call false (.f 19) [(.t 15)]) ::
oF 14 17 (.un .not (.t 16)) ::
oD 18 (.pick (.t 14) cT (.t 17)) ::
[])))
(.cond (.t 18)
(.seq
(.keep []
(.reg (oD 19 (.call false (.f 15) []) ::
oM 4 19 ::
[])))
.ret)
.skip))
(.seq
(.keep [0, 1]
(.reg (oM 20 1 ::
oD 21 (.conv .i64 (.t 20)) ::
oM 22 0 ::
oD 23 (.len (.t 22)) ::
oD 24 (.bin .add (.t 23) (cI 1)) ::
oD 25 (.bin .rem (.t 21) (.t 24)) ::
oM 5 25 ::
[])))
(.seq
(.keep [0, 5]
(.reg (oM 27 0 ::
oM 28 5 ::
oD 29 (.slice 6 (.t 27) none (some (.t 28)) none) ::
oD 30 (.call false (.f 16) [(.t 29)]) ::
oM 26 30 ::
oD 31 (.extract (.t 26) 0) ::
oD 32 (.extract (.t 26) 1) ::
oM 6 31 ::
oM 7 32 ::
[])))
(.seq
(.keep [0, 5, 6, 7]
(.reg (oM 34 0 ::
oD 35 (.call false (.f 16) [(.t 34)]) ::
oM 33 35 ::
oD 36 (.extract (.t 33) 0) ::
oD 37 (.extract (.t 33) 1) ::
oM 8 36 ::
oM 9 37 ::
[])))
(.seq
(.seq
(.keep [0, 5, 6, 7, 8, 9]
(.reg (oM 38 7 ::
oD 39 (.bin .neq (.t 38) (cI 0)) ::
oM 40 39 ::
oF 40 41 (.mov (.t 9)) ::
oF 40 42 (.bin .neq (.t 41) (cI 0)) ::
oD 43 (.pick (.t 40) cT (.t 42)) ::
oM 44 43 ::
oF 44 45 (.mov (.t 6)) ::
oF 44 46 (.len (.t 45)) ::
oF 44 47 (.mov (.t 8)) ::
oF 44 48 (.len (.t 47)) ::
oF 44 49 (.bin .gtr (.t 46) (.t 48)) ::
oD 50 (.pick (.t 44) cT (.t 49)) ::
oM 51 50 ::
oF 51 52 (.mov (.t 6)) ::
oF 51 53 (.len (.t 52)) ::
oF 51 54 (.bin .lss (.t 53) (cI 8)) ::
oD 55 (.pick (.t 51) cT (.t 54)) ::
[])))
(.cond (.t 55)
(.seq
(.keep []
(.reg (oD 4 (.mov cF) ::
[])))
.ret)
.skip))
(.seq
(.keep [0, 5, 6, 8]
(.regD ((oM 56 6, []) ::
(oD 57 (.indexSl 1 (.t 56) (cI 2)), []) ::
(oL 58 57, []) ::
(oD 59 (.conv .i64 (.t 58)), []) ::
(oD 60 (.bin .mul (.t 59) (cI 256)), []) ::
(oM 61 6, [0, 0, 0, 0, 0]) ::
(oD 62 (.indexSl 1 (.t 61) (cI 3)), [1, 0, 0, 0, 0]) ::
(oL 63 62, [2, 0, 0, 0, 0]) ::
(oD 64 (.conv .i64 (.t 63)), [3, 0, 0, 0, 0]) ::
(oD 65 (.bin .add (.t 60) (.t 64)), []) ::
(oM 10 65, []) ::
[])))
(.seq
(.keep [0, 5, 6, 8, 10]
(.regD ((oM 66 0, []) ::
(oM 67 5, [0]) ::
(oD 68 (.slice 6 (.t 66) none (some (.t 67)) none), []) ::
(oD 69 (.call false (.f 19) [(.t 68)]), []) ::
(oM 70 69, []) ::
(oT 70 71 (.mov (.t 10)), []) ::
(oT 70 72 (.bin .geq (.t 71) (cI 4)), []) ::
(oD 73 (.pick (.t 70) (.t 72) cF), []) ::
(oM 74 73, []) ::
(oT 74 75 (.mov (.t 10)), []) ::
(oT 74 76 (.mov (.t 6)), [0]) ::
(oT 74 77 (.len (.t 76)), [1]) ::
(oT 74 78 (.bin .leq (.t 75) (.t 77)), []) ::
(oD 79 (.pick (.t 74) (.t 78) cF), []) ::
(oM 80 79, []) ::
(oT 80 81 (.mov (.t 6)), []) ::
(oT 80 82 (.mov (.t 10)), [0]) ::
(oT 80 83 (.slice 1 (.t 81) (some (cI 4)) (some (.t 82)) none), []) ::
(oT 80 84 (.mov (.t 8)), [0, 0, 0]) ::
(oT 80 85 (.mov (.t 10)), [0, 0, 0, 0]) ::
(oT 80 86 (.slice 1 (.t 84) (some (cI 4)) (some (.t 85)) none), [2, 0, 0]) ::
(oT 80 87 (.call false (.f 20) [(.t 83), (.t 86)]), []) ::
(oD 88 (.pick (.t 80) (.t 87) cF), []) ::
(oM 89 88, []) ::
(oT 89 90 (.call false (.f 15) []), []) ::
(oD 91 (.pick (.t 89) (.t 90) cF), []) ::
(oM 4 91, []) ::
[])))
.ret))))))))
def rd_l10_MatchFront : List RD := [.tmp 4 true none]
theorem ok_l10_MatchFront : fnOk Tryd.prog Tryd.f6 ir_l10_MatchFront rd_l10_MatchFront = true := by kernel_rfl
def S_l10_MatchFront : List AV → List Obj → Option (Prop × AV)
  | [.imm (.cons (.int .i64) (.cons (.int .i64) (.cons .bool (.cons (.int .u64) (.cons (.sl (.int .u8)) (.cons (.sl (.int .u8)) .nil)))))) l, .int .u8 n], [] => some ((True, .bool true))
  | _, _ => none
theorem snd_l10_MatchFront : SoundS Tryd.prog 6 (RoF S_l10_MatchFront).sum := by
  refine ro_fn Tryd.func6 ok_l10_MatchFront (env_cons (s := RoF S_r09_Few) snd_r09_Few (env_cons (s := RoF S_match_Right) snd_match_Right (env_cons (s := RoF S_l10_sure) snd_l10_sure (env_cons (s := RoF S_match_Encode) snd_match_Encode (env_cons (s := RoF S_r01_Bytes) snd_r01_Bytes (env_nil _)))))) fun args objs p v e => ?_
  unfold S_l10_MatchFront at e
  split at e
  · rename_i l n
    cases e
    refine ⟨rfl, fun hw ho hp => ?_⟩
    change List OV at l
    have hn : 0 ≤ n ∧ n ≤ 255 := by have h := hw (.int .u8 n) (by simp); unfold AV.wf1 at h; exact h
    clear hw ho
    cases hf : fewO l with
    | false =>
      repeat' (intro t ht; first | (cases t <;> first | (cases ht; done) | ((try simp only [bn_s] at ht); (try simp only [nd_s] at ht); (try (exfalso; first | contradiction | omega)))) | (refine ht ?_ ?_ <;> clear ht) | (refine ht.1 ?_ ?_ <;> clear ht) | (refine ht ?_; clear ht))
      all_goals first
        | exact True.intro
        | exact ⟨rfl, rfl⟩
        | (exfalso; simp_all; done)
        | trace_state
    | true =>
      obtain ⟨hok, hl60⟩ := few_ok hf
      cases hr : rgM l with
      | false =>
        repeat' (intro t ht; first | (cases t <;> first | (cases ht; done) | ((try simp only [bn_s] at ht); (try simp only [nd_s] at ht); (try (exfalso; first | contradiction | omega)))) | (refine ht ?_ ?_ <;> clear ht) | (refine ht.1 ?_ ?_ <;> clear ht) | (refine ht ?_; clear ht))
        all_goals first
          | exact True.intro
          | exact hok
          | exact ⟨rfl, rfl⟩
          | (exfalso; simp_all; done)
          | trace_state
      | true =>
        have hm := tmod_bd (a := n) (s := (l.length : Int) + 1) hn.1 (by omega)
        obtain ⟨k, hk⟩ := Int.eq_ofNat_of_zero_le hm.1
        have hkl : k ≤ l.length := by omega
        have hrk := rg_front (k := k) hr
        have hokk := rg_ok hrk
        obtain ⟨f1, f2, f3, f4, f5, f6⟩ := front_bo (k := k) hr
        obtain ⟨g1, g2⟩ := meB_get hrk
        have e1 : meL l = meB l := if_pos hr
        have e2 : meE l = 0 := if_pos hr
        have e3 : meL (l.take k) = meB (l.take k) := if_pos hrk
        have e4 : meE (l.take k) = 0 := if_pos hrk
        have hb8 : ∀ z ∈ bytesN (meN (l.take k)) 2, 0 ≤ z ∧ z ≤ 255 := fun z hz => by
          rw [at2, Int.fdiv_eq_ediv_of_nonneg _ (by decide)] at hz
          simp only [List.mem_cons, List.not_mem_nil, or_false] at hz
          rcases hz with rfl | rfl <;> omega
        have b23 : 0 ≤ (meB (l.take k)).getD 2 0 ∧ (meB (l.take k)).getD 2 0 ≤ 255 ∧ 0 ≤ (meB (l.take k)).getD 3 0 ∧ (meB (l.take k)).getD 3 0 ≤ 255 := by
          have a2 : bytesN (meN (l.take k)) 2 = [meN (l.take k) / 256 % 256, meN (l.take k) % 256] := by rw [at2, Int.fdiv_eq_ediv_of_nonneg _ (by decide)]
          have a1 := at2 1
          unfold meB; rw [a1, a2]
          show 0 ≤ meN (l.take k) / 256 % 256 ∧ meN (l.take k) / 256 % 256 ≤ 255 ∧ 0 ≤ meN (l.take k) % 256 ∧ meN (l.take k) % 256 ≤ 255
          omega
        obtain ⟨b2a, b2b, b3a, b3b⟩ := b23
        repeat' (intro t ht; first | (cases t <;> first | (cases ht; done) | ((try simp only [bn_s] at ht); (try simp only [nd_s] at ht))) | (refine ht ?_ ?_ <;> clear ht) | (refine ht.1 ?_ ?_ <;> clear ht) | (refine ht ?_; clear ht))
        all_goals (try simp only [hf, hr, hk, Int.toNat_natCast, e1, e2, e3, e4, hrk, cast_rfl] at *)
        all_goals (try simp only [show Int.toNat 2 = 2 from rfl, show Int.toNat 3 = 3 from rfl, show Int.toNat 4 = 4 from rfl, dflt_int, g1, g2, f1] at *)
        all_goals first
          | exact True.intro
          | contradiction
          | exact hok
          | exact hokk
          | omega
          | (simp only [mm_s]; omega)
          | exact ⟨rfl, by first | rfl | exact True.intro⟩
          | exact ⟨True.intro, True.intro⟩
          | (constructor <;> omega)
          | (exfalso; omega)
          | (refine ⟨?_, ?_, ?_⟩ <;> omega)
          | ((try simp only [nd_s, bn_s, mm_s] at *); omega)
          | (exfalso; simp_all; done)
          | trace_state
  · cases e
end Go.Eng
