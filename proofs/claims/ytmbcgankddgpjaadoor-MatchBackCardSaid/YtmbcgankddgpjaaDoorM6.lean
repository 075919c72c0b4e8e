/- Contracts of functions of the given program, told by plain Lean functions. No condition. -/
import Derived.Test.YtmbcgankddgpjaaDoorProg
import Derived.Test.YtmbcgankddgpjaaDoorEArg
import Derived.KernelRfl
import Derived.Test.YtmbcgankddgpjaaDoorM5
import Derived.Test.YtmbcgankddgpjaaDoorA4
namespace Go.Eng
open Go.Proofs
set_option linter.unusedVariables false
set_option linter.unusedSimpArgs false
set_option maxRecDepth 100000
set_option maxHeartbeats 1000000
def vO (y : List Int) : OV := (decC y, decF y, decH y, decX y, decV y, decM y, ())
/-- The values that bytes are, each of which may stand behind those ahead of it. -/
def mlG (acc : List OV) (y : List Int) : List OV × Int :=
  if y.length = 0 then (acc, 0) else if ¬ decE y = 0 then ([], decE y) else if ¬ (ckS [] (acc ++ [vO y])).2 = 0 then ([], (ckS [] (acc ++ [vO y])).2) else mlG (acc ++ [vO y]) (y.drop (max 1 (decN y).toNat))
termination_by y.length
decreasing_by all_goals (rw [List.length_drop]; omega)
theorem mlG_nil {acc : List OV} {y : List Int} (h : y.length = 0) : mlG acc y = (acc, 0) := by rw [mlG, if_pos h]
theorem mlG_bad {acc : List OV} {y : List Int} (h : ¬ y.length = 0) (h1 : ¬ decE y = 0) : mlG acc y = ([], decE y) := by rw [mlG, if_neg h, if_pos h1]
theorem mlG_ck {acc : List OV} {y : List Int} (h : ¬ y.length = 0) (h1 : decE y = 0) (h2 : ¬ (ckS [] (acc ++ [vO y])).2 = 0) : mlG acc y = ([], (ckS [] (acc ++ [vO y])).2) := by rw [mlG, if_neg h, if_neg (not_not_intro h1), if_pos h2]
theorem decN_ge {y : List Int} (hb : ∀ x ∈ y, 0 ≤ x ∧ x ≤ 255) (h : decE y = 0) : 4 ≤ decN y ∧ decN y ≤ y.length := by
  obtain ⟨h1, h2, h3, h4⟩ := enc_dec hb h
  have := congrArg List.length h2
  rw [List.length_take] at this
  have hl : 4 ≤ (refB (decC y) (decF y) (decH y) (decX y) (decV y) (decM y)).length := by
    have := bytesN_len (n := decC y) (w := 2) (by decide)
    unfold refB; simp only [List.length_append, List.length_cons]; omega
  omega
theorem mlG_ok {acc : List OV} {y : List Int} (hb : ∀ x ∈ y, 0 ≤ x ∧ x ≤ 255) (h : ¬ y.length = 0) (h1 : decE y = 0) (h2 : (ckS [] (acc ++ [vO y])).2 = 0) : mlG acc y = mlG (acc ++ [vO y]) (y.drop (decN y).toNat) := by
  have hn := decN_ge hb h1
  rw [mlG, if_neg h, if_neg (not_not_intro h1), if_neg (not_not_intro h2), show max 1 (decN y).toNat = (decN y).toNat by omega]
theorem vO_eq {y : List Int} (h : decE y = 0) : ((decI y (decC y), decI y (decF y), (if decE y = 0 then decH y else false), decI y (decX y), decR y (decV y), decR y (decM y), ()) : OV) = vO y := by
  unfold decI decR vO; simp only [if_pos h]
def ir_match_each : IR :=
(.seq
(.keep [0]
(.reg (oD 1 (.boxv (.t 0)) ::
oD 2 (.mov (.c (.undef))) ::
[])))
(.seq
(.reg (oD 3 (.mkfn 92 [] [(.t 1)]) ::
oM 2 3 ::
[]))
.ret))
def rd_match_each : List RD := [.tmp 2 true none]
theorem ok_match_each : fnOk Tryd.prog Tryd.f70 ir_match_each rd_match_each = true := by kernel_rfl
def S_match_each : List AV → List Obj → Option (Prop × AV × List Obj)
  | [.imm (.int .u8) b], [] => some ((True, .fn 92 [] [.ptr 0 0], [.box [.imm (.int .u8) b]]))
  | _, _ => none
theorem snd_match_each : SoundS Tryd.prog 70 (RwF S_match_each).sum := by
  refine rw_fn Tryd.func70 ok_match_each (env_nil _) fun args objs p v o e => ?_
  unfold S_match_each at e
  split at e
  · rename_i b
    cases e
    refine ⟨rfl, fun hw ho hp => ?_⟩
    change List Int at b
    repeat' (intro t ht; first | (cases t <;> first | (cases ht; done) | ((try simp only [bn_s] at ht); (try simp only [nd_s] at ht); (try (exfalso; first | contradiction | omega)))) | (refine ht ?_ ?_ <;> clear ht) | (refine ht.1 ?_ ?_ <;> clear ht) | (refine ht ?_; clear ht))
    all_goals first
      | exact True.intro
      | exact ⟨rfl, rfl⟩
      | trace_state
  · cases e
def ir_match_list : IR :=
(.seq
(.keep [0]
(.reg (oD 2 (.box [.nils]) ::
oD 3 (.box [.int .i64 0]) ::
[])))
(.seq
(.seq
(.reg (oM 8 0 ::
oD 9 (.call false (.f 70) [(.t 8)]) ::
[]))
(.block 0
(.rng 9 [10, 11] [2, 3] 92
(.seq
(.keep [2, 3, 10, 11]
(.reg (oD 4 (.box [.int .i64 0, .int .i64 0, .kb false, .int .u64 0, .nils, .nils]) ::
oN (.store 6 (.t 4) (.t 10)) ::
[])))
(.reg (oM 5 11 ::
[])))
(.block 1
(.seq
(.seq
(.keep [2, 3, 4, 5]
(.reg (oM 12 5 ::
oD 13 (.bin .neq (.t 12) (cI 0)) ::
[])))
(.cond (.t 13)
(.seq
(.reg (oM 14 5 ::
oN (.store 1 (.t 2) (.c (.nils))) ::
oN (.store 1 (.t 3) (.t 14)) ::
[]))
.ret)
.skip))
(.seq
(.reg (oL 15 2 ::
oD 16 (.load (some 6) (.t 4)) ::
oD 17 (.sliceAll (.cons (.int .i64) (.cons (.int .i64) (.cons .bool (.cons (.int .u64) (.cons (.sl (.int .u8)) (.cons (.sl (.int .u8)) .nil)))))) 1 [(0, 6, (.t 16))]) ::
oD 18 (.append (.cons (.int .i64) (.cons (.int .i64) (.cons .bool (.cons (.int .u64) (.cons (.sl (.int .u8)) (.cons (.sl (.int .u8)) .nil)))))) 80 (.t 15) (.t 17)) ::
oN (.store 1 (.t 2) (.t 18)) ::
[]))
(.seq
(.keep [2, 3]
(.reg (oL 20 2 ::
oD 21 (.call false (.f 53) [(.t 20)]) ::
oM 19 21 ::
oD 22 (.extract (.t 19) 0) ::
oD 23 (.extract (.t 19) 1) ::
oM 6 22 ::
oM 7 23 ::
[])))
(.seq
(.keep [2, 3, 7]
(.reg (oM 24 7 ::
oD 25 (.bin .neq (.t 24) (cI 0)) ::
[])))
(.cond (.t 25)
(.seq
(.reg (oM 26 7 ::
oN (.store 1 (.t 2) (.c (.nils))) ::
oN (.store 1 (.t 3) (.t 26)) ::
[]))
.ret)
.skip))))))
(.block 0
(.loop
(.seq
(.seq
(.keep [0, 1]
(.reg (oL 6 1 ::
oD 7 (.len (.t 6)) ::
oD 8 (.bin .gtr (.t 7) (cI 0)) ::
[])))
(.cond (.t 8)
.skip
(.exit 0)))
(.block 1
(.seq
(.keep [0, 1]
(.reg (oL 10 1 ::
oD 11 (.call false (.f 93) [(.t 10)]) ::
oM 9 11 ::
oD 12 (.extract (.t 9) 0) ::
oD 13 (.extract (.t 9) 1) ::
oD 14 (.extract (.t 9) 2) ::
oD 3 (.box [.int .i64 0, .int .i64 0, .kb false, .int .u64 0, .imm (.int .u8) [], .imm (.int .u8) []]) ::
oN (.store 6 (.t 3) (.t 12)) ::
oM 4 13 ::
oM 5 14 ::
[])))
(.seq
(.seq
(.keep [0, 1, 3, 4, 5]
(.yld (oM 15 0 ::
oD 16 (.load (some 6) (.t 3)) ::
oM 17 5 ::
[]) (some 18) (.t 15) [(.t 16), (.t 17)] [0, 1, 4, 5] (oD 19 (.un .not (.t 18)) ::
oM 20 19 ::
oF 20 21 (.mov (.t 5)) ::
oF 20 22 (.bin .neq (.t 21) (cI 0)) ::
oD 23 (.pick (.t 20) cT (.t 22)) ::
[])))
(.cond (.t 23)
.ret
.skip))
(.keep [0, 1, 4]
(.reg (oL 24 1 ::
oM 25 4 ::
oD 26 (.slice 1 (.t 24) (some (.t 25)) none none) ::
oN (.store 1 (.t 1) (.t 26)) ::
[]))))))))))))
(.seq
(.keep [2, 3]
(.reg (oL 27 2 ::
oN (.store 1 (.t 2) (.t 27)) ::
oN (.store 1 (.t 3) (cI 0)) ::
[])))
.ret)))
def rd_match_list : List RD := [.cell 2 none true [(some (.cons (.int .i64) (.cons (.int .i64) (.cons .bool (.cons (.int .u64) (.cons (.sl (.int .u8)) (.cons (.sl (.int .u8)) .nil)))))))], .cell 3 none true []]
theorem ok_match_list : fnOk Tryd.prog Tryd.f45 ir_match_list rd_match_list = true := by kernel_rfl
def S_match_list : List AV → List Obj → Option (Prop × AV)
  | [.imm (.int .u8) b], [] => some ((b.length ≤ 100000000, .tup [.imm (.cons (.int .i64) (.cons (.int .i64) (.cons .bool (.cons (.int .u64) (.cons (.sl (.int .u8)) (.cons (.sl (.int .u8)) .nil)))))) (mlG [] b).1, .int .i64 (mlG [] b).2]))
  | _, _ => none
theorem snd_match_list : SoundS Tryd.prog 45 (RoF S_match_list).sum := by
  refine ro_fn Tryd.func45 ok_match_list (env_cons (s := RoF S_oxm_Decode) snd_oxm_Decode (env_cons (s := RwF S_match_each) snd_match_each (env_cons (s := RoF S_need_Check) snd_need_Check (env_nil _)))) fun args objs p v e => ?_
  unfold S_match_list at e
  split at e
  · rename_i b
    cases e
    refine ⟨rfl, fun hw ho hp => ?_⟩
    change List Int at b
    have hb : ∀ x ∈ (b : List Int), (0 : Int) ≤ x ∧ x ≤ 255 := fun x hx => (hw (.imm (.int .u8) b) (by simp)).1 x hx
    clear hw ho
    repeat' (intro t ht; first | (cases t <;> first | (cases ht; done) | ((try simp only [bn_s] at ht); (try simp only [nd_s] at ht); (try (exfalso; first | contradiction | omega)))) | (refine ht ?_ ?_ <;> clear ht) | (refine ht.1 ?_ ?_ <;> clear ht) | (refine ht ?_; clear ht))
    all_goals first
      | exact True.intro
      | (refine .inl fun lr ln => ?_)
      | trace_state
    repeat' (intro t ht; first | (cases t <;> first | (cases ht; done) | ((try simp only [bn_s] at ht); (try simp only [nd_s] at ht); (try (exfalso; first | contradiction | omega)))) | (refine ht ?_ ?_ <;> clear ht) | (refine ht.1 ?_ ?_ <;> clear ht) | (refine ht ?_; clear ht))
    all_goals first
      | exact True.intro
      | (intro r h1 h2; clear h1; refine h2 ⟨[0, 1], Option (List OV × List Int), (fun a => match a with | none => True | some a => a.1.length + a.2.length ≤ b.length ∧ (∀ x ∈ a.2, 0 ≤ x ∧ x ≤ 255) ∧ mlG [] b = mlG a.1 a.2), (fun a => [.yv ln, .ptr 0 0]), (fun a => match a with | none => [.box [.imm (.int .u8) b], .box [.nils], .box [.int .i64 0], .lrec lr 0] | some a => [.box [.imm (.int .u8) a.2], .box [.own 4], .box [.int .i64 0], .lrec lr 0, .row false (.cons (.int .i64) (.cons (.int .i64) (.cons .bool (.cons (.int .u64) (.cons (.sl (.int .u8)) (.cons (.sl (.int .u8)) .nil)))))) a.1]), (fun a => match a with | none => b.length + 1 | some a => a.2.length), ⟨none, True.intro, rfl, rfl⟩, ?_⟩; clear h2)
      | trace_state
    rintro (_ | ⟨acc, y⟩) hJ
    · clear hJ
      repeat' (intro t ht; first | (cases t <;> first | (cases ht; done) | ((try simp only [bn_s] at ht); (try simp only [nd_s] at ht); (try (exfalso; first | contradiction | omega)))) | (refine ht ?_ ?_ <;> clear ht) | (refine ht.1 ?_ ?_ <;> clear ht) | (refine ht ?_; clear ht))
      all_goals (try dsimp only at *)
      all_goals first
        | exact True.intro
        | ((try simp only [nd_s, bn_s, mm_s] at *); omega)
        | exact ⟨rfl, rfl⟩
        | (rw [mlG_nil (by omega)]; exact ⟨rfl, rfl⟩)
        | (simp only [cast_rfl, List.length_cons, List.length_nil]; constructor <;> omega)
        | (have h0 : decE b = 0 := by assumption
           have hg := decN_ge hb h0
           have e1 : decI b (decN b) = decN b := if_pos h0
           have hv := vO_eq h0
           first
             | (rw [e1]; constructor <;> omega)
             | (have hc : ¬ (ckS [] ([] ++ [(decI b (decC b), decI b (decF b), if decE b = 0 then decH b else false, decI b (decX b), decR b (decV b), decR b (decM b), ())])).2 = 0 := by assumption
                rw [hv] at hc
                have hm := mlG_ck (acc := []) (by omega) h0 hc
                rw [hm, ← hv]; exact ⟨rfl, rfl⟩)
             | (have hc : (ckS [] ([] ++ [(decI b (decC b), decI b (decF b), if decE b = 0 then decH b else false, decI b (decX b), decR b (decV b), decR b (decM b), ())])).2 = 0 := by assumption
                rw [hv] at hc
                have hm := mlG_ok (acc := []) hb (by omega) h0 hc
                refine ⟨some ([] ++ [vO b], b.drop (decN b).toNat), ⟨?_, fun x hx => hb x (List.mem_of_mem_drop hx), hm⟩, ?_, rfl, ?_⟩
                · simp only [List.length_append, List.length_cons, List.length_nil, List.length_drop]; omega
                · dsimp only; rw [List.length_drop]; omega
                · dsimp only; rw [e1, ← hv]; rfl))
        | (have h0 : ¬ decE b = 0 := by assumption
           rw [mlG_bad (by omega) h0]; exact ⟨rfl, rfl⟩)
        | trace_state
    · obtain ⟨j1, j2, j3⟩ := hJ
      dsimp only at j1 j2 j3
      repeat' (intro t ht; first | (cases t <;> first | (cases ht; done) | ((try simp only [bn_s] at ht); (try simp only [nd_s] at ht); (try (exfalso; first | contradiction | omega)))) | (refine ht ?_ ?_ <;> clear ht) | (refine ht.1 ?_ ?_ <;> clear ht) | (refine ht ?_; clear ht))
      all_goals (try dsimp only at *)
      all_goals first
        | exact True.intro
        | ((try simp only [nd_s, bn_s, mm_s] at *); omega)
        | exact ⟨rfl, rfl⟩
        | (rw [j3, mlG_nil (by omega)]; exact ⟨rfl, rfl⟩)
        | (simp only [cast_rfl, List.length_cons, List.length_nil]; constructor <;> omega)
        | (have h0 : decE y = 0 := by assumption
           have hg := decN_ge j2 h0
           have e1 : decI y (decN y) = decN y := if_pos h0
           have hv := vO_eq h0
           first
             | (rw [e1]; constructor <;> omega)
             | (have hc : ¬ (ckS [] (acc ++ [(decI y (decC y), decI y (decF y), if decE y = 0 then decH y else false, decI y (decX y), decR y (decV y), decR y (decM y), ())])).2 = 0 := by assumption
                rw [hv] at hc
                have hm := mlG_ck (acc := acc) (by omega) h0 hc
                rw [j3, hm, ← hv]; exact ⟨rfl, rfl⟩)
             | (have hc : (ckS [] (acc ++ [(decI y (decC y), decI y (decF y), if decE y = 0 then decH y else false, decI y (decX y), decR y (decV y), decR y (decM y), ())])).2 = 0 := by assumption
                rw [hv] at hc
                have hm := mlG_ok (acc := acc) j2 (by omega) h0 hc
                refine ⟨some (acc ++ [vO y], y.drop (decN y).toNat), ⟨?_, fun x hx => j2 x (List.mem_of_mem_drop hx), j3.trans hm⟩, ?_, rfl, ?_⟩
                · simp only [List.length_append, List.length_cons, List.length_nil, List.length_drop]; omega
                · dsimp only; rw [List.length_drop]; omega
                · dsimp only; rw [e1, ← hv]; rfl))
        | (have h0 : ¬ decE y = 0 := by assumption
           rw [j3, mlG_bad (by omega) h0]; exact ⟨rfl, rfl⟩)
        | trace_state
  · cases e
end Go.Eng
