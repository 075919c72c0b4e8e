/- Contracts of functions of the given program, told by plain Lean functions. No condition. -/
import Derived.Test.YtmbcgankddgpjaaGreatDoorProg
import Derived.Test.YtmbcgankddgpjaaGreatDoorEArg
import Derived.KernelRfl
import Derived.Test.YtmbcgankddgpjaaGreatDoorM9
namespace Go.Eng
open Go.Proofs
set_option linter.unusedVariables false
set_option linter.unusedSimpArgs false
set_option maxRecDepth 100000
set_option maxHeartbeats 1000000
def S10a : List Int := [0, 1, 0, 10, 128, 0, 10, 2, 8, 0, 0, 0, 0, 0, 0, 0, 9]
def S10b : List Int := [0, 1, 0, 10, 128, 0, 26, 2, 8, 0, 0, 0, 0, 0, 0, 0]
def S10o : OV := (32768, 5, false, 0, [8, 0], [], ())
theorem s10r : rgM [S10o] = true ∧ rgM [] = true ∧ meB [] = [0, 1, 0, 4, 0, 0, 0, 0] ∧ meB [S10o] ++ [9] = S10a ∧ (meB [S10o]).length = 16 := by decide +kernel
theorem s10a : mdE S10a = 0 ∧ mdL S10a = [S10o] ∧ mdN S10a = 16 := by
  obtain ⟨h1, _, _, h4, h5⟩ := s10r
  have := md_enc (b := [9]) h1 (fun o ho => by simp only [List.mem_cons, List.not_mem_nil, or_false] at ho; subst ho; decide)
  rw [h4, h5] at this; exact this
theorem s10k : bd S10b = [128, 0, 26, 2, 8, 0] ∧ decE [128, 0, 26, 2, 8, 0] = 0 ∧ (ckS [] ([] ++ [vO [128, 0, 26, 2, 8, 0]])).2 = 1034 ∧ tT S10b = 1 ∧ tN S10b = 10 ∧ pz 10 = 6 := by decide +kernel
theorem s10b : mdE S10b = 1034 ∧ mdL S10b = [] := by
  obtain ⟨k1, k2, k3, k4, k5, k6⟩ := s10k
  have hm := mlG_ck (acc := []) (y := [128, 0, 26, 2, 8, 0]) (by decide) k2 (by rw [k3]; decide)
  have h := md_list (b := S10b) (e := 1034) (by decide) k4 (by rw [k5, k6]; decide) (by rw [k1, hm]; exact k3) (by decide)
  exact ⟨h.1, h.2.1⟩
theorem ok_s10 : okM [] ∧ okM [S10o] := ⟨rg_ok s10r.2.1, rg_ok s10r.1⟩
def ir_l10_sure : IR :=
(.seq
(.keep []
(.reg (oD 0 (.mov cF) ::
[])))
(.seq
(.keep []
(.reg (oD 10 (.call false (.f 18) [(.c (.imm (.cons (.int .i64) (.cons (.int .i64) (.cons .bool (.cons (.int .u64) (.cons (.sl (.int .u8)) (.cons (.sl (.int .u8)) .nil)))))) []))]) ::
oM 9 10 ::
oD 11 (.extract (.t 9) 0) ::
oD 12 (.extract (.t 9) 1) ::
oM 1 11 ::
oM 2 12 ::
[])))
(.seq
(.keep [1, 2]
(.reg (oD 14 (.sliceAll (.int .u8) 17 [(0, 1, (.c (.int .u8 0))), (1, 1, (.c (.int .u8 1))), (2, 1, (.c (.int .u8 0))), (3, 1, (.c (.int .u8 10))), (4, 1, (.c (.int .u8 128))), (5, 1, (.c (.int .u8 0))), (6, 1, (.c (.int .u8 10))), (7, 1, (.c (.int .u8 2))), (8, 1, (.c (.int .u8 8))), (9, 1, (.c (.int .u8 0))), (10, 1, (.c (.int .u8 0))), (11, 1, (.c (.int .u8 0))), (12, 1, (.c (.int .u8 0))), (13, 1, (.c (.int .u8 0))), (14, 1, (.c (.int .u8 0))), (15, 1, (.c (.int .u8 0))), (16, 1, (.c (.int .u8 9)))]) ::
oD 15 (.call false (.f 26) [(.t 14)]) ::
oM 13 15 ::
oD 16 (.extract (.t 13) 0) ::
oD 17 (.extract (.t 13) 1) ::
oD 18 (.extract (.t 13) 2) ::
oM 3 16 ::
oM 4 17 ::
oM 5 18 ::
[])))
(.seq
(.keep [1, 2, 3, 4, 5]
(.reg (oD 20 (.sliceAll (.int .u8) 16 [(0, 1, (.c (.int .u8 0))), (1, 1, (.c (.int .u8 1))), (2, 1, (.c (.int .u8 0))), (3, 1, (.c (.int .u8 10))), (4, 1, (.c (.int .u8 128))), (5, 1, (.c (.int .u8 0))), (6, 1, (.c (.int .u8 26))), (7, 1, (.c (.int .u8 2))), (8, 1, (.c (.int .u8 8))), (9, 1, (.c (.int .u8 0))), (10, 1, (.c (.int .u8 0))), (11, 1, (.c (.int .u8 0))), (12, 1, (.c (.int .u8 0))), (13, 1, (.c (.int .u8 0))), (14, 1, (.c (.int .u8 0))), (15, 1, (.c (.int .u8 0)))]) ::
oD 21 (.call false (.f 26) [(.t 20)]) ::
oM 19 21 ::
oD 22 (.extract (.t 19) 0) ::
oD 23 (.extract (.t 19) 1) ::
oD 24 (.extract (.t 19) 2) ::
oM 6 22 ::
oM 7 23 ::
oM 8 24 ::
[])))
(.seq
(.keep [1, 2, 3, 4, 5, 8]
(.reg (oM 25 2 ::
oD 26 (.bin .eql (.t 25) (cI 0)) ::
oM 27 26 ::
oT 27 28 (.mov (.t 1)) ::
oT 27 29 (.sliceAll (.int .u8) 8 [(0, 1, (.c (.int .u8 0))), (1, 1, (.c (.int .u8 1))), (2, 1, (.c (.int .u8 0))), (3, 1, (.c (.int .u8 4))), (4, 1, (.c (.int .u8 0))), (5, 1, (.c (.int .u8 0))), (6, 1, (.c (.int .u8 0))), (7, 1, (.c (.int .u8 0)))]) ::
oT 27 30 (.call false (.f 25) [(.t 28), (.t 29)]) ::
oD 31 (.pick (.t 27) (.t 30) cF) ::
oM 32 31 ::
oT 32 33 (.mov (.t 5)) ::
oT 32 34 (.bin .eql (.t 33) (cI 0)) ::
oD 35 (.pick (.t 32) (.t 34) cF) ::
oM 36 35 ::
oT 36 37 (.mov (.t 4)) ::
oT 36 38 (.bin .eql (.t 37) (cI 16)) ::
oD 39 (.pick (.t 36) (.t 38) cF) ::
oM 40 39 ::
oT 40 41 (.mov (.t 3)) ::
oT 40 42 (.len (.t 41)) ::
oT 40 43 (.bin .eql (.t 42) (cI 1)) ::
oD 44 (.pick (.t 40) (.t 43) cF) ::
oM 45 44 ::
oT 45 46 (.mov (.t 3)) ::
oT 45 47 (.indexSl 6 (.t 46) (cI 0)) ::
oT 45 48 (.fieldAddr 1 (.t 47)) ::
oT 45 49 (.load none (.t 48)) ::
oT 45 50 (.bin .eql (.t 49) (cI 5)) ::
oD 51 (.pick (.t 45) (.t 50) cF) ::
oM 52 51 ::
oT 52 53 (.mov (.t 8)) ::
oT 52 54 (.bin .eql (.t 53) (cI 1034)) ::
oD 55 (.pick (.t 52) (.t 54) cF) ::
oM 56 55 ::
oT 56 57 (.mov (.t 3)) ::
oT 56 58 (.call false (.f 24) [(.t 57)]) ::
oD 59 (.pick (.t 56) (.t 58) cF) ::
oM 0 59 ::
[])))
.ret)))))
def rd_l10_sure : List RD := [.tmp 0 true none]
theorem ok_l10_sure : fnOk Tryz.prog Tryz.f17 ir_l10_sure rd_l10_sure = true := by kernel_rfl
def S_l10_sure : List AV → List Obj → Option (Prop × AV)
  | [], [] => some ((True, .bool true))
  | _, _ => none
theorem snd_l10_sure : SoundS Tryz.prog 17 (RoF S_l10_sure).sum := by
  refine ro_fn Tryz.func17 ok_l10_sure (env_cons (s := RoF S_match_Encode) snd_match_Encode (env_cons (s := RoF S_match_Decode) snd_match_Decode (env_cons (s := RoF S_r01_Bytes) snd_r01_Bytes (env_cons (s := RoF S_match_Right) snd_match_Right (env_nil _))))) fun args objs p v e => ?_
  unfold S_l10_sure at e
  split at e
  · cases e
    refine ⟨rfl, fun hw ho hp => ?_⟩
    clear hw ho
    obtain ⟨e1, e2, e3⟩ := s10a
    obtain ⟨e4, e5⟩ := s10b
    obtain ⟨r1, r2, r3, r4, r5⟩ := s10r
    obtain ⟨o1, o2⟩ := ok_s10
    have n1 : meL [] = [0, 1, 0, 4, 0, 0, 0, 0] := (if_pos r2).trans r3
    have n2 : meE [] = 0 := if_pos r2
    unfold S10a at e1 e2 e3
    unfold S10b at e4 e5
    repeat' (intro t ht; first | (cases t <;> first | (cases ht; done) | ((try simp only [bn_s] at ht); (try simp only [nd_s] at ht))) | (refine ht ?_ ?_ <;> clear ht) | (refine ht.1 ?_ ?_ <;> clear ht) | (refine ht ?_; clear ht))
    all_goals (try simp only [n1, n2, e1, e2, e3, e4, e5, r1, if_true, reduceCtorEq, not_true_eq_false] at *)
    all_goals first
      | exact True.intro
      | exact o1
      | exact o2
      | exact (by decide)
      | contradiction
      | exact ⟨rfl, by first | rfl | exact True.intro⟩
      | trace_state
  · cases e
def ir_l10_MatchEncodes : IR :=
(.seq
(.keep [0, 1]
(.reg (oD 4 (.mov cF) ::
[])))
(.seq
(.seq
(.keep [0, 1]
(.reg (oM 12 0 ::
oD 13 (.call false (.f 16) [(.t 12)]) ::
oD 14 (.un .not (.t 13)) ::
oM 15 14 ::
oF 15 16 (.mov (.t 1)) ::
oF 15 17 (.len (.t 16)) ::
oF 15 18 (.bin .gtr (.t 17) (cI 100)) ::
oD 19 (.pick (.t 15) cT (.t 18)) ::
[])))
(.cond (.t 19)
(.seq
(.keep []
(.reg (oD 20 (.call false (.f 17) []) ::
oM 4 20 ::
[])))
.ret)
.skip))
(.seq
(.keep [0, 1]
(.reg (oM 22 0 ::
oD 23 (.call false (.f 18) [(.t 22)]) ::
oM 21 23 ::
oD 24 (.extract (.t 21) 0) ::
oD 25 (.extract (.t 21) 1) ::
oM 5 24 ::
oM 6 25 ::
[])))
(.seq
(.keep [0, 1, 5, 6]
(.reg (oM 27 0 ::
oD 28 (.call false (.f 19) [(.t 27)]) ::
oM 26 28 ::
oD 29 (.extract (.t 26) 0) ::
oD 30 (.extract (.t 26) 1) ::
oM 7 29 ::
oM 8 30 ::
[])))
(.seq
(.keep [0, 1, 5, 6, 7, 8]
(.reg (oD 31 (.call false (.f 20) [(cI 100000)]) ::
oM 9 31 ::
[])))
(.seq
(.reg (oM 32 9 ::
oM 33 1 ::
oD 34 (.call false (.f 21) [(.t 32), (.t 33)]) ::
[]))
(.seq
(.reg (oM 35 9 ::
oM 36 0 ::
oD 37 (.call false (.f 22) [(.t 35), (.t 36)]) ::
[]))
(.seq
(.keep [0, 1, 5, 6, 7, 8, 9]
(.reg (oM 39 9 ::
oD 40 (.call false (.f 23) [(.t 39)]) ::
oM 38 40 ::
oD 41 (.extract (.t 38) 0) ::
oD 42 (.extract (.t 38) 1) ::
oM 10 41 ::
oM 11 42 ::
[])))
(.seq
(.seq
(.keep [0, 1, 5, 6, 7, 8, 10, 11]
(.reg (oM 43 8 ::
oD 44 (.bin .neq (.t 43) (cI 0)) ::
[])))
(.cond (.t 44)
(.seq
(.keep [0, 5, 6, 8, 11]
(.reg (oM 45 0 ::
oD 46 (.call false (.f 24) [(.t 45)]) ::
oD 47 (.un .not (.t 46)) ::
oM 48 47 ::
oT 48 49 (.mov (.t 5)) ::
oT 48 50 (.len (.t 49)) ::
oT 48 51 (.bin .eql (.t 50) (cI 0)) ::
oD 52 (.pick (.t 48) (.t 51) cF) ::
oM 53 52 ::
oT 53 54 (.mov (.t 6)) ::
oT 53 55 (.mov (.t 8)) ::
oT 53 56 (.bin .eql (.t 54) (.t 55)) ::
oD 57 (.pick (.t 53) (.t 56) cF) ::
oM 58 57 ::
oT 58 59 (.mov (.t 11)) ::
oT 58 60 (.mov (.t 8)) ::
oT 58 61 (.bin .eql (.t 59) (.t 60)) ::
oD 62 (.pick (.t 58) (.t 61) cF) ::
oM 63 62 ::
oT 63 64 (.call false (.f 17) []) ::
oD 65 (.pick (.t 63) (.t 64) cF) ::
oM 4 65 ::
[])))
.ret)
.skip))
(.seq
(.keep [0, 1, 5, 6, 7, 10, 11]
(.reg (oM 66 0 ::
oD 67 (.call false (.f 24) [(.t 66)]) ::
oM 68 67 ::
oT 68 69 (.mov (.t 5)) ::
oT 68 70 (.mov (.t 7)) ::
oT 68 71 (.call false (.f 25) [(.t 69), (.t 70)]) ::
oD 72 (.pick (.t 68) (.t 71) cF) ::
oM 73 72 ::
oT 73 74 (.mov (.t 6)) ::
oT 73 75 (.bin .eql (.t 74) (cI 0)) ::
oD 76 (.pick (.t 73) (.t 75) cF) ::
oM 77 76 ::
oT 77 78 (.mov (.t 11)) ::
oT 77 79 (.bin .eql (.t 78) (cI 0)) ::
oD 80 (.pick (.t 77) (.t 79) cF) ::
oM 81 80 ::
oT 81 82 (.mov (.t 10)) ::
oT 81 83 (.slice0 (.int .u8)) ::
oT 81 84 (.mov (.t 1)) ::
oT 81 85 (.append (.int .u8) 1 (.t 83) (.t 84)) ::
oT 81 86 (.mov (.t 7)) ::
oT 81 87 (.append (.int .u8) 1 (.t 85) (.t 86)) ::
oT 81 88 (.call false (.f 25) [(.t 82), (.t 87)]) ::
oD 89 (.pick (.t 81) (.t 88) cF) ::
oM 90 89 ::
oT 90 91 (.call false (.f 17) []) ::
oD 92 (.pick (.t 90) (.t 91) cF) ::
oM 4 92 ::
[])))
.ret))))))))))
def rd_l10_MatchEncodes : List RD := [.tmp 4 true none]
theorem ok_l10_MatchEncodes : fnOk Tryz.prog Tryz.f4 ir_l10_MatchEncodes rd_l10_MatchEncodes = true := by kernel_rfl
def S_l10_MatchEncodes : List AV → List Obj → Option (Prop × AV)
  | [.imm (.cons (.int .i64) (.cons (.int .i64) (.cons .bool (.cons (.int .u64) (.cons (.sl (.int .u8)) (.cons (.sl (.int .u8)) .nil)))))) l, .imm (.int .u8) b], [] => some ((True, .bool true))
  | _, _ => none
theorem snd_l10_MatchEncodes : SoundS Tryz.prog 4 (RoF S_l10_MatchEncodes).sum := by
  refine ro_fn Tryz.func4 ok_l10_MatchEncodes (env_cons (s := RoF S_r09_Few) snd_r09_Few (env_cons (s := RoF S_l10_sure) snd_l10_sure (env_cons (s := RoF S_match_Encode) snd_match_Encode (env_cons (s := RoF S_r10_Encode) snd_r10_Encode (env_cons (s := RwF S_buffer_New) snd_buffer_New (env_cons (s := RwF S_buffer_Buffer_Bytes) snd_buffer_Buffer_Bytes (env_cons (s := RwF S_match_Put) snd_match_Put (env_cons (s := RwF S_buffer_Buffer_Done) snd_buffer_Buffer_Done (env_cons (s := RoF S_match_Right) snd_match_Right (env_cons (s := RoF S_r01_Bytes) snd_r01_Bytes (env_nil _))))))))))) fun args objs p v e => ?_
  unfold S_l10_MatchEncodes at e
  split at e
  · rename_i l b
    cases e
    refine ⟨rfl, fun hw ho hp => ?_⟩
    change List Int at b
    change List OV at l
    clear hw ho
    cases hf : fewO l with
    | false =>
      repeat' (intro t ht; first | (cases t <;> first | (cases ht; done) | ((try simp only [bn_s] at ht); (try simp only [nd_s] at ht); (try (exfalso; first | contradiction | omega)))) | (refine ht ?_ ?_ <;> clear ht) | (refine ht.1 ?_ ?_ <;> clear ht) | (refine ht ?_; clear ht))
      all_goals first
        | exact True.intro
        | exact ⟨rfl, rfl⟩
        | (exfalso; simp_all; done)
        | trace_state
    | true =>
      by_cases hbl : b.length ≤ 100
      · obtain ⟨hok, _⟩ := few_ok hf
        cases hr : rgM l with
        | false =>
          have e1 : meL l = [] := by unfold meL; rw [hr]; rfl
          have e2 : meE l = 10001 := by unfold meE; rw [hr]; rfl
          have hroom : roomF 100000 = 100000 := by decide
          obtain ⟨b1, b2⟩ := buf_ok (x := b) (l := []) (room := 100000) (by simp only [List.length_nil]; omega)
          rw [List.nil_append] at b1
          obtain ⟨m1, m2⟩ := mp_bad (x := l) (l := b) (room := 100000) (e := 0) hr
          have f1 : failE 0 10001 = 10001 := rfl
          have dE : doneE [] 10001 = 10001 := rfl
          repeat' (intro t ht; first | (cases t <;> first | (cases ht; done) | ((try simp only [bn_s] at ht); (try simp only [nd_s] at ht))) | (refine ht ?_ ?_ <;> clear ht) | (refine ht.1 ?_ ?_ <;> clear ht) | (refine ht ?_; clear ht))
          all_goals (try simp only [hf, hr, e1, e2, hroom, b1, b2, m1, m2, f1, dE] at *)
          all_goals first
            | exact True.intro
            | contradiction
            | exact hok
            | exact ⟨by decide, by decide, by decide, by omega⟩
            | exact ⟨hok, by decide, by decide, by omega⟩
            | omega
            | exact ⟨rfl, by first | rfl | exact True.intro⟩
            | exact ⟨True.intro, True.intro⟩
            | (constructor <;> (try simp only [List.length_nil]) <;> omega)
            | (rw [List.length_append]; omega)
            | (constructor <;> omega)
            | (exfalso; omega)
            | (exfalso; simp_all; done)
            | trace_state
        | true =>
          obtain ⟨h1, h2, h3, h4, h5⟩ := rgM_parts hr
          have hz := pz_le (n := meN l) (by omega)
          have hml := meB_len l (by omega)
          have e1 : meL l = meB l := if_pos hr
          have e2 : meE l = 0 := if_pos hr
          have hroom : roomF 100000 = 100000 := by decide
          obtain ⟨b1, b2⟩ := buf_ok (x := b) (l := []) (room := 100000) (by simp only [List.length_nil]; omega)
          rw [List.nil_append] at b1
          obtain ⟨m1, m2⟩ := mp_ok (x := l) (l := b) (room := 100000) hr (by omega)
          have dE : doneE [] 0 = 0 := rfl
          have dL : doneL (b ++ meB l) [] 0 = b ++ meB l := rfl
          repeat' (intro t ht; first | (cases t <;> first | (cases ht; done) | ((try simp only [bn_s] at ht); (try simp only [nd_s] at ht))) | (refine ht ?_ ?_ <;> clear ht) | (refine ht.1 ?_ ?_ <;> clear ht) | (refine ht ?_; clear ht))
          all_goals (try simp only [hf, hr, e1, e2, hroom, b1, b2, m1, m2, dE, dL] at *)
          all_goals first
            | exact True.intro
            | contradiction
            | exact hok
            | exact ⟨by decide, by decide, by decide, by omega⟩
            | exact ⟨hok, by decide, by decide, by omega⟩
            | omega
            | exact ⟨rfl, by first | rfl | exact True.intro⟩
            | exact ⟨True.intro, True.intro⟩
            | (constructor <;> (try simp only [List.length_nil]) <;> omega)
            | (rw [List.length_append]; omega)
            | (simp only [cast_rfl, List.length_append, List.length_nil, Nat.zero_add]; constructor <;> omega)
            | (exfalso; omega)
            | (exfalso; simp_all; done)
            | ((try simp only [nd_s, bn_s, mm_s] at *); omega)
            | trace_state
      · repeat' (intro t ht; first | (cases t <;> first | (cases ht; done) | ((try simp only [bn_s] at ht); (try simp only [nd_s] at ht); (try (exfalso; first | contradiction | omega)))) | (refine ht ?_ ?_ <;> clear ht) | (refine ht.1 ?_ ?_ <;> clear ht) | (refine ht ?_; clear ht))
        all_goals first
          | exact True.intro
          | exact ⟨rfl, rfl⟩
          | (exfalso; omega)
          | (exfalso; simp_all; done)
          | trace_state
  · cases e
def ir_l10_MatchDecodes : IR :=
(.seq
(.keep [0, 1]
(.reg (oD 4 (.mov cF) ::
[])))
(.seq
(.seq
(.keep [0, 1]
(.reg (oM 13 0 ::
oD 14 (.len (.t 13)) ::
oD 15 (.bin .gtr (.t 14) (cI 1500)) ::
oM 16 15 ::
oF 16 17 (.mov (.t 1)) ::
oF 16 18 (.len (.t 17)) ::
oF 16 19 (.bin .gtr (.t 18) (cI 100)) ::
oD 20 (.pick (.t 16) cT (.t 19)) ::
[])))
(.cond (.t 20)
(.seq
(.keep []
(.reg (oD 21 (.call false (.f 17) []) ::
oM 4 21 ::
[])))
.ret)
.skip))
(.seq
(.keep [0, 1]
(.reg (oM 23 0 ::
oD 24 (.call false (.f 26) [(.t 23)]) ::
oM 22 24 ::
oD 25 (.extract (.t 22) 0) ::
oD 26 (.extract (.t 22) 1) ::
oD 27 (.extract (.t 22) 2) ::
oM 5 25 ::
oM 6 26 ::
oM 7 27 ::
[])))
(.seq
(.keep [0, 1, 5, 6, 7]
(.reg (oM 29 0 ::
oD 30 (.call false (.f 27) [(.t 29)]) ::
oM 28 30 ::
oD 31 (.extract (.t 28) 0) ::
oD 32 (.extract (.t 28) 1) ::
oD 33 (.extract (.t 28) 2) ::
oM 8 31 ::
oM 9 32 ::
oM 10 33 ::
[])))
(.seq
(.keep [0, 1, 5, 6, 7, 8, 9, 10]
(.reg (oD 34 (.slice0 (.int .u8)) ::
oM 35 1 ::
oD 36 (.append (.int .u8) 1 (.t 34) (.t 35)) ::
oM 37 0 ::
oD 38 (.append (.int .u8) 1 (.t 36) (.t 37)) ::
oD 39 (.call false (.f 28) [(.t 38), (cI 263), (cI 263)]) ::
oM 11 39 ::
[])))
(.seq
(.keep [1, 5, 6, 7, 8, 9, 10, 11]
(.reg (oM 40 11 ::
oM 41 1 ::
oD 42 (.len (.t 41)) ::
oD 43 (.call false (.f 29) [(.t 40), (.t 42)]) ::
[])))
(.seq
(.reg (oM 44 11 ::
oD 45 (.call false (.f 30) [(.t 44)]) ::
oM 12 45 ::
[]))
(.seq
(.keep [1, 5, 6, 7, 8, 9, 10, 11, 12]
(.reg (oM 46 5 ::
oM 47 8 ::
oD 48 (.call false (.f 31) [(.t 46), (.t 47)]) ::
oM 49 48 ::
oT 49 50 (.mov (.t 6)) ::
oT 49 51 (.mov (.t 9)) ::
oT 49 52 (.bin .eql (.t 50) (.t 51)) ::
oD 53 (.pick (.t 49) (.t 52) cF) ::
oM 54 53 ::
oT 54 55 (.mov (.t 7)) ::
oT 54 56 (.mov (.t 10)) ::
oT 54 57 (.bin .eql (.t 55) (.t 56)) ::
oD 58 (.pick (.t 54) (.t 57) cF) ::
oM 59 58 ::
oT 59 60 (.mov (.t 12)) ::
oT 59 61 (.mov (.t 8)) ::
oT 59 62 (.call false (.f 31) [(.t 60), (.t 61)]) ::
oD 63 (.pick (.t 59) (.t 62) cF) ::
oM 64 63 ::
oT 64 65 (.mov (.t 11)) ::
oT 64 66 (.call false (.f 32) [(.t 65)]) ::
oT 64 67 (.mov (.t 10)) ::
oT 64 68 (.bin .eql (.t 66) (.t 67)) ::
oD 69 (.pick (.t 64) (.t 68) cF) ::
oM 70 69 ::
oT 70 71 (.mov (.t 11)) ::
oT 70 72 (.call false (.f 33) [(.t 71)]) ::
oT 70 73 (.mov (.t 1)) ::
oT 70 74 (.len (.t 73)) ::
oT 70 75 (.mov (.t 9)) ::
oT 70 76 (.bin .add (.t 74) (.t 75)) ::
oT 70 77 (.bin .eql (.t 72) (.t 76)) ::
oD 78 (.pick (.t 70) (.t 77) cF) ::
oM 79 78 ::
oT 79 80 (.call false (.f 17) []) ::
oD 81 (.pick (.t 79) (.t 80) cF) ::
oM 4 81 ::
[])))
.ret))))))))
def rd_l10_MatchDecodes : List RD := [.tmp 4 true none]
theorem ok_l10_MatchDecodes : fnOk Tryz.prog Tryz.f5 ir_l10_MatchDecodes rd_l10_MatchDecodes = true := by kernel_rfl
def S_l10_MatchDecodes : List AV → List Obj → Option (Prop × AV)
  | [.imm (.int .u8) b, .imm (.int .u8) x], [] => some ((True, .bool true))
  | _, _ => none
theorem snd_l10_MatchDecodes : SoundS Tryz.prog 5 (RoF S_l10_MatchDecodes).sum := by
  refine ro_fn Tryz.func5 ok_l10_MatchDecodes (env_cons (s := RoF S_l10_sure) snd_l10_sure (env_cons (s := RoF S_match_Decode) snd_match_Decode (env_cons (s := RoF S_r10_Decode) snd_r10_Decode (env_cons (s := RwF S_cursor_New) snd_cursor_New (env_cons (s := RwF S_cursor_Cursor_Bytes) snd_cursor_Cursor_Bytes (env_cons (s := RwF S_match_Take) snd_match_Take (env_cons (s := RoF S_r09_Same) snd_r09_Same (env_cons (s := RoF S_cursor_Cursor_Err) snd_cursor_Cursor_Err (env_cons (s := RoF S_cursor_Cursor_At) snd_cursor_Cursor_At (env_nil _)))))))))) fun args objs p v e => ?_
  unfold S_l10_MatchDecodes at e
  split at e
  · rename_i b x
    cases e
    refine ⟨rfl, fun hw ho hp => ?_⟩
    change List Int at b
    change List Int at x
    have hb : ∀ z ∈ (b : List Int), (0 : Int) ≤ z ∧ z ≤ 255 := fun z hz => (hw (.imm (.int .u8) b) (by simp)).1 z hz
    clear hw ho
    by_cases hc : b.length ≤ 1500 ∧ x.length ≤ 100
    · obtain ⟨c1, c2⟩ := hc
      have hE := takeE
      obtain ⟨k1, k2, k3⟩ := take_ok (n := x.length) (p := 0) (sh := 263) (b := x ++ b) (by omega) (by rw [List.length_append]; omega)
      have hd : (x ++ b).drop (0 + (x.length : Int)).toNat = b := by rw [show (0 + (x.length : Int)).toNat = x.length by omega]; exact List.drop_left
      have q1 : mtL (x ++ b) (0 + (x.length : Int)) 0 = mdL b := by unfold mtL; rw [if_pos rfl, hd]
      have q2 : mtP (x ++ b) (0 + (x.length : Int)) 0 = 0 + (x.length : Int) + mdN b := by unfold mtP; rw [if_pos rfl, hd]
      have q3 : mtE (x ++ b) (0 + (x.length : Int)) 0 = mdE b := by unfold mtE; rw [if_pos rfl, hd]
      have hN := mdN_le b hb
      clear hE
      repeat' (intro t ht; first | (cases t <;> first | (cases ht; done) | ((try simp only [bn_s] at ht); (try simp only [nd_s] at ht))) | (refine ht ?_ ?_ <;> clear ht) | (refine ht.1 ?_ ?_ <;> clear ht) | (refine ht ?_; clear ht))
      all_goals (try simp only [cast_rfl, List.nil_append, k1, k2, k3, q1, q2, q3] at *)
      all_goals first
        | exact True.intro
        | contradiction
        | omega
        | exact ⟨rfl, by first | rfl | exact True.intro⟩
        | exact ⟨True.intro, True.intro⟩
        | (constructor <;> (try simp only [List.length_nil]) <;> omega)
        | (rw [List.length_append]; omega)
        | (simp only [cast_rfl, List.length_append, List.length_nil, Nat.zero_add] at *; constructor <;> omega)
        | (simp only [cast_rfl, List.length_append, List.length_nil, Nat.zero_add] at *; refine ⟨?_, ?_, ?_, ?_⟩ <;> omega)
        | (exfalso; omega)
        | (exfalso; simp_all; done)
        | ((try simp only [nd_s, bn_s, mm_s] at *); omega)
        | trace_state
    · repeat' (intro t ht; first | (cases t <;> first | (cases ht; done) | ((try simp only [bn_s] at ht); (try simp only [nd_s] at ht); (try (exfalso; first | contradiction | omega)))) | (refine ht ?_ ?_ <;> clear ht) | (refine ht.1 ?_ ?_ <;> clear ht) | (refine ht ?_; clear ht))
      all_goals first
        | exact True.intro
        | exact ⟨rfl, rfl⟩
        | (exfalso; omega)
        | (exfalso; simp_all; done)
        | trace_state
  · cases e
end Go.Eng
