/- Contracts of functions of the given program, told by plain Lean functions. No condition. -/
import Derived.Test.YtmbcgankddgpjaaDoorProg
import Derived.Test.YtmbcgankddgpjaaDoorEArg
import Derived.KernelRfl
import Derived.Test.YtmbcgankddgpjaaDoorM9
namespace Go.Eng
open Go.Proofs
set_option linter.unusedVariables false
set_option linter.unusedSimpArgs false
set_option maxRecDepth 100000
set_option maxHeartbeats 1000000
def S10a : List Int := [0, 1, 0, 10, 128, 0, 10, 2, 8, 0, 0, 0, 0, 0, 0, 0, 9]
def S10b : List Int := [0, 1, 0, 10, 128, 0, 26, 2, 8, 0, 0, 0, 0, 0, 0, 0]
def S10o : OV := (32768, 5, false, 0, [8, 0], [], ())
theorem s10r : rgM [S10o] = true ∧ rgM [] = true ∧ meB [] = [0, 1, 0, 4, 0, 0, 0, 0] ∧ meB [S10o] ++ [9] = S10a ∧ (meB [S10o]).length = 16 := by decide +kernel
theorem s10a : mdE S10a = 0 ∧ mdL S10a = [S10o] ∧ mdN S10a = 16 := by
  obtain ⟨h1, _, _, h4, h5⟩ := s10r
  have := md_enc (b := [9]) h1 (fun o ho => by simp only [List.mem_cons, List.not_mem_nil, or_false] at ho; subst ho; decide)
  rw [h4, h5] at this; exact this
theorem s10k : bd S10b = [128, 0, 26, 2, 8, 0] ∧ decE [128, 0, 26, 2, 8, 0] = 0 ∧ (ckS [] ([] ++ [vO [128, 0, 26, 2, 8, 0]])).2 = 1034 ∧ tT S10b = 1 ∧ tN S10b = 10 ∧ pz 10 = 6 := by decide +kernel
theorem s10b : mdE S10b = 1034 ∧ mdL S10b = [] := by
  obtain ⟨k1, k2, k3, k4, k5, k6⟩ := s10k
  have hm := mlG_ck (acc := []) (y := [128, 0, 26, 2, 8, 0]) (by decide) k2 (by rw [k3]; decide)
  have h := md_list (b := S10b) (e := 1034) (by decide) k4 (by rw [k5, k6]; decide) (by rw [k1, hm]; exact k3) (by decide)
  exact ⟨h.1, h.2.1⟩
theorem ok_s10 : okM [] ∧ okM [S10o] := ⟨rg_ok s10r.2.1, rg_ok s10r.1⟩
def ir_l10_sure : IR :=
(.seq
(.keep []
(.reg (oD 0 (.mov cF) ::
[])))
(.seq
(.keep []
(.reg (oD 10 (.call false (.f 16) [(.c (.imm (.cons (.int .i64) (.cons (.int .i64) (.cons .bool (.cons (.int .u64) (.cons (.sl (.int .u8)) (.cons (.sl (.int .u8)) .nil)))))) []))]) ::
oM 9 10 ::
oD 11 (.extract (.t 9) 0) ::
oD 12 (.extract (.t 9) 1) ::
oM 1 11 ::
oM 2 12 ::
[])))
(.seq
(.keep [1, 2]
(.reg (oD 14 (.sliceAll (.int .u8) 17 [(0, 1, (.c (.int .u8 0))), (1, 1, (.c (.int .u8 1))), (2, 1, (.c (.int .u8 0))), (3, 1, (.c (.int .u8 10))), (4, 1, (.c (.int .u8 128))), (5, 1, (.c (.int .u8 0))), (6, 1, (.c (.int .u8 10))), (7, 1, (.c (.int .u8 2))), (8, 1, (.c (.int .u8 8))), (9, 1, (.c (.int .u8 0))), (10, 1, (.c (.int .u8 0))), (11, 1, (.c (.int .u8 0))), (12, 1, (.c (.int .u8 0))), (13, 1, (.c (.int .u8 0))), (14, 1, (.c (.int .u8 0))), (15, 1, (.c (.int .u8 0))), (16, 1, (.c (.int .u8 9)))]) ::
oD 15 (.call false (.f 17) [(.t 14)]) ::
oM 13 15 ::
oD 16 (.extract (.t 13) 0) ::
oD 17 (.extract (.t 13) 1) ::
oD 18 (.extract (.t 13) 2) ::
oM 3 16 ::
oM 4 17 ::
oM 5 18 ::
[])))
(.seq
(.keep [1, 2, 3, 4, 5]
(.reg (oD 20 (.sliceAll (.int .u8) 16 [(0, 1, (.c (.int .u8 0))), (1, 1, (.c (.int .u8 1))), (2, 1, (.c (.int .u8 0))), (3, 1, (.c (.int .u8 10))), (4, 1, (.c (.int .u8 128))), (5, 1, (.c (.int .u8 0))), (6, 1, (.c (.int .u8 26))), (7, 1, (.c (.int .u8 2))), (8, 1, (.c (.int .u8 8))), (9, 1, (.c (.int .u8 0))), (10, 1, (.c (.int .u8 0))), (11, 1, (.c (.int .u8 0))), (12, 1, (.c (.int .u8 0))), (13, 1, (.c (.int .u8 0))), (14, 1, (.c (.int .u8 0))), (15, 1, (.c (.int .u8 0)))]) ::
oD 21 (.call false (.f 17) [(.t 20)]) ::
oM 19 21 ::
oD 22 (.extract (.t 19) 0) ::
oD 23 (.extract (.t 19) 1) ::
oD 24 (.extract (.t 19) 2) ::
oM 6 22 ::
oM 7 23 ::
oM 8 24 ::
[])))
(.seq
(.keep [1, 2, 3, 4, 5, 8]
(.reg (oM 25 2 ::
oD 26 (.bin .eql (.t 25) (cI 0)) ::
oM 27 26 ::
oT 27 28 (.mov (.t 1)) ::
oT 27 29 (.sliceAll (.int .u8) 8 [(0, 1, (.c (.int .u8 0))), (1, 1, (.c (.int .u8 1))), (2, 1, (.c (.int .u8 0))), (3, 1, (.c (.int .u8 4))), (4, 1, (.c (.int .u8 0))), (5, 1, (.c (.int .u8 0))), (6, 1, (.c (.int .u8 0))), (7, 1, (.c (.int .u8 0)))]) ::
oT 27 30 (.call false (.f 20) [(.t 28), (.t 29)]) ::
oD 31 (.pick (.t 27) (.t 30) cF) ::
oM 32 31 ::
oT 32 33 (.mov (.t 5)) ::
oT 32 34 (.bin .eql (.t 33) (cI 0)) ::
oD 35 (.pick (.t 32) (.t 34) cF) ::
oM 36 35 ::
oT 36 37 (.mov (.t 4)) ::
oT 36 38 (.bin .eql (.t 37) (cI 16)) ::
oD 39 (.pick (.t 36) (.t 38) cF) ::
oM 40 39 ::
oT 40 41 (.mov (.t 3)) ::
oT 40 42 (.len (.t 41)) ::
oT 40 43 (.bin .eql (.t 42) (cI 1)) ::
oD 44 (.pick (.t 40) (.t 43) cF) ::
oM 45 44 ::
oT 45 46 (.mov (.t 3)) ::
oT 45 47 (.indexSl 6 (.t 46) (cI 0)) ::
oT 45 48 (.fieldAddr 1 (.t 47)) ::
oT 45 49 (.load none (.t 48)) ::
oT 45 50 (.bin .eql (.t 49) (cI 5)) ::
oD 51 (.pick (.t 45) (.t 50) cF) ::
oM 52 51 ::
oT 52 53 (.mov (.t 8)) ::
oT 52 54 (.bin .eql (.t 53) (cI 1034)) ::
oD 55 (.pick (.t 52) (.t 54) cF) ::
oM 56 55 ::
oT 56 57 (.mov (.t 3)) ::
oT 56 58 (.call false (.f 19) [(.t 57)]) ::
oD 59 (.pick (.t 56) (.t 58) cF) ::
oM 0 59 ::
[])))
.ret)))))
def rd_l10_sure : List RD := [.tmp 0 true none]
theorem ok_l10_sure : fnOk Tryd.prog Tryd.f15 ir_l10_sure rd_l10_sure = true := by kernel_rfl
def S_l10_sure : List AV → List Obj → Option (Prop × AV)
  | [], [] => some ((True, .bool true))
  | _, _ => none
theorem snd_l10_sure : SoundS Tryd.prog 15 (RoF S_l10_sure).sum := by
  refine ro_fn Tryd.func15 ok_l10_sure (env_cons (s := RoF S_match_Encode) snd_match_Encode (env_cons (s := RoF S_match_Decode) snd_match_Decode (env_cons (s := RoF S_r01_Bytes) snd_r01_Bytes (env_cons (s := RoF S_match_Right) snd_match_Right (env_nil _))))) fun args objs p v e => ?_
  unfold S_l10_sure at e
  split at e
  · cases e
    refine ⟨rfl, fun hw ho hp => ?_⟩
    clear hw ho
    obtain ⟨e1, e2, e3⟩ := s10a
    obtain ⟨e4, e5⟩ := s10b
    obtain ⟨r1, r2, r3, r4, r5⟩ := s10r
    obtain ⟨o1, o2⟩ := ok_s10
    have n1 : meL [] = [0, 1, 0, 4, 0, 0, 0, 0] := (if_pos r2).trans r3
    have n2 : meE [] = 0 := if_pos r2
    unfold S10a at e1 e2 e3
    unfold S10b at e4 e5
    repeat' (intro t ht; first | (cases t <;> first | (cases ht; done) | ((try simp only [bn_s] at ht); (try simp only [nd_s] at ht))) | (refine ht ?_ ?_ <;> clear ht) | (refine ht.1 ?_ ?_ <;> clear ht) | (refine ht ?_; clear ht))
    all_goals (try simp only [n1, n2, e1, e2, e3, e4, e5, r1, if_true, reduceCtorEq, not_true_eq_false] at *)
    all_goals first
      | exact True.intro
      | exact o1
      | exact o2
      | exact (by decide)
      | contradiction
      | exact ⟨rfl, by first | rfl | exact True.intro⟩
      | trace_state
  · cases e
end Go.Eng
