/- Contracts of functions of the given program, told by plain Lean functions. No condition. -/
import Derived.Test.YtmbcgankddgpjaaDoorProg
import Derived.Test.YtmbcgankddgpjaaDoorEArg
import Derived.KernelRfl
import Derived.Test.YtmbcgankddgpjaaDoorC1
namespace Go.Eng
open Go.Proofs
set_option linter.unusedVariables false
set_option linter.unusedSimpArgs false
set_option maxRecDepth 100000
set_option maxHeartbeats 1000000
def ir_buffer_Buffer_none : IR :=
(.seq
(.keep [0]
(.reg (oD 2 (.mov cF) ::
[])))
(.seq
(.keep [0]
(.reg (oM 3 0 ::
oD 4 (.eqp false (.t 3) (.c (.nilp))) ::
oM 5 4 ::
oF 5 6 (.mov (.t 0)) ::
oF 5 7 (.nilck (.t 6)) ::
oF 5 8 (.fieldAddr 2 (.t 7)) ::
oF 5 9 (.load none (.t 8)) ::
oF 5 10 (.eqn false (.t 9) (.c (.nilm))) ::
oD 11 (.pick (.t 5) cT (.t 10)) ::
oM 2 11 ::
[])))
.ret))
def rd_buffer_Buffer_none : List RD := [.tmp 2 true none]
theorem ok_buffer_Buffer_none : fnOk Tryd.prog Tryd.f66 ir_buffer_Buffer_none rd_buffer_Buffer_none = true := by kernel_rfl
def S_buffer_Buffer_none : List AV → List Obj → Option (Prop × AV)
  | [.ptr 0 0], [.box [.own 1, .int .i64 room, .mapv 2, .int .i64 e], .row false (.int .u8) l, .map sq (.int .i64) (.int .i64) h] => some ((True, .bool false))
  | _, _ => none
theorem snd_buffer_Buffer_none : SoundS Tryd.prog 66 (RoF S_buffer_Buffer_none).sum := by
  refine ro_fn Tryd.func66 ok_buffer_Buffer_none (env_nil _) fun args objs p v e => ?_
  unfold S_buffer_Buffer_none at e
  split at e
  · rename_i room e l sq h
    cases e
    refine ⟨rfl, fun hw ho hp => ?_⟩
    change List Int at l
    repeat' (intro t ht; first | (cases t <;> first | (cases ht; done) | ((try simp only [bn_s] at ht); (try simp only [nd_s] at ht))) | (refine ht ?_ ?_ <;> clear ht) | (refine ht.1 ?_ ?_ <;> clear ht) | (refine ht ?_; clear ht))
    all_goals exact ⟨rfl, rfl⟩
  · cases e
def roomF (n : Int) : Int := if 1000000 < (if 0 > n then 0 else n) then 1000000 else (if 0 > n then 0 else n)
def ir_buffer_New : IR :=
(.seq
(.keep [0]
(.reg (oD 2 (.mov (.c (.nilp))) ::
[])))
(.seq
(.keep [0]
(.reg (oM 3 0 ::
oD 4 (.minmax true (.t 3) (cI 0)) ::
oD 5 (.minmax false (.t 4) (cI 1000000)) ::
oD 6 (.mkmap (.int .i64) (.int .i64)) ::
oD 7 (.build [.nils, .int .i64 0, .nilm, .int .i64 0] [(1, 1, (.t 5)), (2, 1, (.t 6))]) ::
oD 8 (.boxv (.t 7)) ::
oM 2 8 ::
[])))
.ret))
def rd_buffer_New : List RD := [.tmp 2 true none]
theorem ok_buffer_New : fnOk Tryd.prog Tryd.f38 ir_buffer_New rd_buffer_New = true := by kernel_rfl
def N_buffer_New : List AV → List Obj → Option (Prop × AV × List Obj)
  | [.int .i64 n], [] => some (True, .ptr 0 0, [.box [.nils, .int .i64 (roomF n), .mapv 1, .int .i64 0], .map true (.int .i64) (.int .i64) ([])])
  | _, _ => none
def S_buffer_New : List AV → List Obj → Option (Prop × AV × List Obj)
  | [.int .i64 n], [] => some (True, .ptr 0 0, [.box [.own 2, .int .i64 (roomF n), .mapv 1, .int .i64 0], .map true (.int .i64) (.int .i64) ([]), .row false (.int .u8) ([])])
  | _, _ => none
theorem snd_buffer_New : SoundS Tryd.prog 38 (RwF S_buffer_New).sum := by
  have h0 : SoundS Tryd.prog 38 (RwF N_buffer_New).sum := by
    refine rw_fn Tryd.func38 ok_buffer_New (env_nil _) fun args objs p v o e => ?_
    unfold N_buffer_New at e
    split at e
    · rename_i n
      cases e
      refine ⟨rfl, fun hw ho hp => ?_⟩
      repeat' (intro t ht; first | (cases t <;> first | (cases ht; done) | ((try simp only [bn_s] at ht); (try simp only [nd_s] at ht))) | (refine ht ?_ ?_ <;> clear ht) | (refine ht.1 ?_ ?_ <;> clear ht) | (refine ht ?_; clear ht))
      all_goals exact ⟨rfl, rfl⟩
    · cases e
  refine own_of_nils (t := .int .u8) h0 fun args objs p v o e => ?_
  unfold S_buffer_New at e
  split at e
  · rename_i n
    cases e
    exact ⟨0, [], [.int .i64 (roomF n), .mapv 1, .int .i64 0], _, rfl, rfl, rfl⟩
  · cases e
def ir_buffer_Buffer_Fail : IR :=
(.seq
(.keep [0, 1]
(.reg (oM 4 0 ::
oD 5 (.call false (.f 66) [(.t 4)]) ::
oD 6 (.un .not (.t 5)) ::
oM 7 6 ::
oT 7 8 (.mov (.t 0)) ::
oT 7 9 (.nilck (.t 8)) ::
oT 7 10 (.fieldAddr 3 (.t 9)) ::
oT 7 11 (.load none (.t 10)) ::
oT 7 12 (.bin .eql (.t 11) (cI 0)) ::
oD 13 (.pick (.t 7) (.t 12) cF) ::
[])))
(.cond (.t 13)
(.keep [0, 1]
(.reg (oM 14 0 ::
oM 15 1 ::
oD 16 (.nilck (.t 14)) ::
oD 17 (.fieldAddr 3 (.t 16)) ::
oN (.store 1 (.t 17) (.t 15)) ::
[])))
.skip))
def rd_buffer_Buffer_Fail : List RD := []
theorem ok_buffer_Buffer_Fail : fnOk Tryd.prog Tryd.f62 ir_buffer_Buffer_Fail rd_buffer_Buffer_Fail = true := by kernel_rfl
def S_buffer_Buffer_Fail : List AV → List Obj → Option (Prop × AV × List Obj)
  | [.ptr 0 0, .int .i64 x], [.box [.own 1, .int .i64 room, .mapv 2, .int .i64 e], .row false (.int .u8) l, .map sq (.int .i64) (.int .i64) h] => some ((True, .tup [], [.box [.own 1, .int .i64 room, .mapv 2, .int .i64 (failE e x)], .row false (.int .u8) l, .map sq (.int .i64) (.int .i64) h]))
  | _, _ => none
theorem snd_buffer_Buffer_Fail : SoundS Tryd.prog 62 (RwF S_buffer_Buffer_Fail).sum := by
  refine rw_fn Tryd.func62 ok_buffer_Buffer_Fail (env_cons (s := RoF S_buffer_Buffer_none) snd_buffer_Buffer_none (env_nil _)) fun args objs p v o e => ?_
  unfold S_buffer_Buffer_Fail at e
  split at e
  · rename_i x room e l sq h
    cases e
    refine ⟨rfl, fun hw ho hp => ?_⟩
    change List Int at l
    repeat' (intro t ht; first | (cases t <;> first | (cases ht; done) | ((try simp only [bn_s] at ht); (try simp only [nd_s] at ht))) | (refine ht ?_ ?_ <;> clear ht) | (refine ht.1 ?_ ?_ <;> clear ht) | (refine ht ?_; clear ht))
    all_goals first
      | exact True.intro
      | (unfold failE; simp_all; done)
      | trace_state
  · cases e
def bufOk (x l : List Int) (room e : Int) : Bool := decide (e = 0) && decide ((x.length : Int) ≤ room - l.length)
def bufB (x l : List Int) (room e : Int) : List Int := if bufOk x l room e = true then l ++ x else l
def bufE (x l : List Int) (room e : Int) : Int := if e = 0 then (if (x.length : Int) ≤ room - l.length then 0 else 10003) else e
def ir_buffer_Buffer_Bytes : IR :=
(.block 0
(.seq
(.keep [0, 1]
(.reg (oM 14 0 ::
oD 15 (.call false (.f 66) [(.t 14)]) ::
oM 16 15 ::
oF 16 17 (.mov (.t 0)) ::
oF 16 18 (.nilck (.t 17)) ::
oF 16 19 (.fieldAddr 3 (.t 18)) ::
oF 16 20 (.load none (.t 19)) ::
oF 16 21 (.bin .neq (.t 20) (cI 0)) ::
oD 22 (.pick (.t 16) cT (.t 21)) ::
oM 13 22 ::
[])))
(.cond (.t 13)
.skip
(.seq
(.keep [0, 1]
(.regD ((oM 24 1, []) ::
(oD 25 (.len (.t 24)), []) ::
(oM 26 0, [0, 0]) ::
(oD 27 (.nilck (.t 26)), [1, 0]) ::
(oD 28 (.fieldAddr 1 (.t 27)), [2, 0]) ::
(oL 29 28, [3, 0]) ::
(oM 30 0, [0, 0, 0, 0, 0, 0]) ::
(oD 31 (.nilck (.t 30)), [1, 0, 0, 0, 0, 0]) ::
(oD 32 (.fieldAddr 0 (.t 31)), [2, 0, 0, 0, 0, 0]) ::
(oL 33 32, [3, 0, 0, 0, 0, 0]) ::
(oD 34 (.len (.t 33)), [4, 0, 0, 0, 0, 0]) ::
(oD 35 (.bin .sub (.t 29) (.t 34)), [9, 0]) ::
(oD 36 (.bin .gtr (.t 25) (.t 35)), []) ::
(oM 23 36, []) ::
[])))
(.cond (.t 23)
(.keep [0]
(.reg (oM 37 0 ::
oD 38 (.call false (.f 62) [(.t 37), (cI 10003)]) ::
[])))
(.keep [0, 1]
(.reg (oM 4 0 ::
oM 5 0 ::
oD 6 (.nilck (.t 5)) ::
oD 7 (.fieldAddr 0 (.t 6)) ::
oL 8 7 ::
oM 9 1 ::
oD 10 (.append (.int .u8) 1 (.t 8) (.t 9)) ::
oD 11 (.nilck (.t 4)) ::
oD 12 (.fieldAddr 0 (.t 11)) ::
oN (.store 1 (.t 12) (.t 10)) ::
[]))))))))
def rd_buffer_Buffer_Bytes : List RD := []
theorem ok_buffer_Buffer_Bytes : fnOk Tryd.prog Tryd.f65 ir_buffer_Buffer_Bytes rd_buffer_Buffer_Bytes = true := by kernel_rfl
def W_buffer_Buffer_Bytes : List AV → List Obj → Option (Prop × Res)
  | [.ptr 0 0, .imm (.int .u8) x], [.box [.own 1, .int .i64 room, .mapv 2, .int .i64 e], .row false (.int .u8) l, .map sq (.int .i64) (.int .i64) h] => some (0 ≤ room ∧ room ≤ 1000000 ∧ l.length ≤ 1000000 ∧ x.length ≤ 1000000, .br (bufOk x l room e) (.one (.tup []) [.box [.own 3, .int .i64 room, .mapv 2, .int .i64 e], .dead, .map sq (.int .i64) (.int .i64) h, .row false (.int .u8) (bufB x l room e)]) (.one (.tup []) [.box [.own 1, .int .i64 room, .mapv 2, .int .i64 (bufE x l room e)], .row false (.int .u8) l, .map sq (.int .i64) (.int .i64) h]))
  | _, _ => none
def S_buffer_Buffer_Bytes : List AV → List Obj → Option (Prop × AV × List Obj)
  | [.ptr 0 0, .imm (.int .u8) x], [.box [.own 1, .int .i64 room, .mapv 2, .int .i64 e], .row false (.int .u8) l, .map sq (.int .i64) (.int .i64) h] => some (0 ≤ room ∧ room ≤ 1000000 ∧ l.length ≤ 1000000 ∧ x.length ≤ 1000000, .tup [], [.box [.own 3, .int .i64 room, .mapv 2, .int .i64 (bufE x l room e)], .dead, .map sq (.int .i64) (.int .i64) h, .row false (.int .u8) (bufB x l room e)])
  | _, _ => none
theorem wnd_buffer_Buffer_Bytes : SoundS Tryd.prog 65 (RcF W_buffer_Buffer_Bytes).sum := by
  refine rc_fn Tryd.func65 ok_buffer_Buffer_Bytes (env_cons (s := RoF S_buffer_Buffer_none) snd_buffer_Buffer_none (env_cons (s := RwF S_buffer_Buffer_Fail) snd_buffer_Buffer_Fail (env_nil _))) fun args objs p v e => ?_
  unfold W_buffer_Buffer_Bytes at e
  split at e
  · rename_i x room e l sq h
    cases e
    change List Int at x
    change List Int at l
    refine ⟨rfl, fun hw ho hp => ?_⟩
    repeat' (intro t ht; first | (cases t <;> first | (cases ht; done) | ((try simp only [bn_s] at ht); (try simp only [nd_s] at ht))) | (refine ht ?_ ?_ <;> clear ht) | (refine ht.1 ?_ ?_ <;> clear ht) | (refine ht ?_; clear ht))
    all_goals first
      | exact True.intro
      | ((try simp only [nd_s, bn_s, mm_s] at *); omega)
      | (simp only [cast_rfl]; omega)
      | (have hb : bufOk x l room e = true := by unfold bufOk; simp only [Bool.and_eq_true, decide_eq_true_eq]; omega
         have hbb : bufB x l room e = l ++ x := by unfold bufB; rw [hb]; rfl
         rw [pick_t hb, hbb]; exact ⟨rfl, rfl⟩)
      | (have hb : bufOk x l room e = false := by unfold bufOk; simp only [Bool.and_eq_false_iff, decide_eq_false_iff_not]; omega
         rw [pick_f hb]
         unfold bufE
         first
           | (rw [if_neg (by assumption)]; exact ⟨rfl, rfl⟩)
           | (have h0 : e = 0 := by assumption
              have h1 : ¬ (x.length : Int) ≤ room - l.length := by omega
              rw [if_pos h0, if_neg h1]
              refine ⟨rfl, ?_⟩; unfold failE; rw [if_pos h0]; rfl))
      | trace_state
  · cases e
theorem snd_buffer_Buffer_Bytes : SoundS Tryd.prog 65 (RwF S_buffer_Buffer_Bytes).sum := by
  refine rc_move wnd_buffer_Buffer_Bytes fun args objs p v o e => ?_
  unfold S_buffer_Buffer_Bytes at e
  split at e
  · rename_i x room e l sq h
    cases e
    cases hb : bufOk x l room e with
    | true =>
      have h1 : e = 0 := by unfold bufOk at hb; simp_all
      have h2 : (x.length : Int) ≤ room - l.length := by unfold bufOk at hb; simp_all
      refine ⟨_, _, rfl, pick_t hb, .inl ?_⟩
      unfold bufE; rw [if_pos h1, if_pos h2, h1]
    | false =>
      refine ⟨_, _, rfl, pick_f hb, .inr ⟨0, 1, [], [.int .i64 room, .mapv 2, .int .i64 (bufE x l room e)], .int .u8, l, rfl, rfl, ?_⟩⟩
      have hbb : bufB x l room e = l := by unfold bufB; rw [hb]; rfl
      rw [hbb]; rfl
  · cases e
theorem putA_len : ∀ (w xs b r : List Int), (∀ n ∈ w, n ≠ 0 ∧ n ≤ 8 ∧ -64 ≤ n) → putA w xs b = some r → (r.length : Int) = b.length + (w.map absI).sum
  | [], xs, b, r, _, h => by simp only [putA, Option.some.injEq] at h; subst h; simp
  | n :: w, xs, b, r, hw, h => by
    have hn := hw n (by simp)
    have hw' : ∀ n ∈ w, n ≠ 0 ∧ n ≤ 8 ∧ -64 ≤ n := fun m hm => hw m (by simp [hm])
    simp only [putA] at h
    split at h
    · have ih := putA_len w _ _ r hw' h
      have hl := bytesN_len (n := 0) (w := 0 - n) (by omega)
      rw [List.length_append] at ih
      rw [List.map_cons, List.sum_cons, absI_neg (by assumption)]; omega
    · cases xs with
      | nil => cases h
      | cons x ys =>
        simp only at h
        split at h
        · cases h
        · have ih := putA_len w _ _ r hw' h
          have hl := bytesN_len (n := x) (w := n) (by omega)
          rw [List.length_append] at ih
          rw [List.map_cons, List.sum_cons, absI_nn (by assumption)]; omega
theorem putB_len (w xs : List Int) : (putB w xs).length ≤ 4096 := by
  unfold putB putF
  split
  · rename_i h
    cases hp : putA w xs [] with
    | none => simp
    | some r =>
      have h1 := putA_len w xs [] r (rightF_t.1 h.1).2 hp
      have h2 := sizeW_le w
      unfold sizeW at h2; rw [if_pos h.1] at h2
      simp at h1 ⊢; omega
  · simp
def rowB (w xs l : List Int) (room e : Int) : List Int := if putK w xs = true then bufB (putB w xs) l room e else l
def rowE (w xs l : List Int) (room e : Int) : Int := if putK w xs = true then bufE (putB w xs) l room e else failE e 10001
def ir_buffer_Buffer_Row : IR :=
(.seq
(.keep [0, 1, 2]
(.reg (oM 9 1 ::
oM 10 2 ::
oD 11 (.call false (.f 87) [(.t 9), (.t 10)]) ::
oM 8 11 ::
oD 12 (.extract (.t 8) 0) ::
oD 13 (.extract (.t 8) 1) ::
oM 6 12 ::
oM 7 13 ::
[])))
(.seq
(.seq
(.keep [0, 6, 7]
(.reg (oM 14 7 ::
oD 15 (.un .not (.t 14)) ::
[])))
(.cond (.t 15)
(.seq
(.reg (oM 16 0 ::
oD 17 (.call false (.f 62) [(.t 16), (cI 10001)]) ::
[]))
.ret)
.skip))
(.reg (oM 18 0 ::
oM 19 6 ::
oD 20 (.call false (.f 65) [(.t 18), (.t 19)]) ::
[]))))
def rd_buffer_Buffer_Row : List RD := []
theorem ok_buffer_Buffer_Row : fnOk Tryd.prog Tryd.f63 ir_buffer_Buffer_Row rd_buffer_Buffer_Row = true := by kernel_rfl
def W_buffer_Buffer_Row : List AV → List Obj → Option (Prop × Res)
  | [.ptr 0 0, .imm (.int .i64) w, .imm (.int .u64) xs], [.box [.own 1, .int .i64 room, .mapv 2, .int .i64 e], .row false (.int .u8) l, .map sq (.int .i64) (.int .i64) h] => some (0 ≤ room ∧ room ≤ 1000000 ∧ l.length ≤ 1000000, .br (putK w xs) (.one (.tup []) [.box [.own 3, .int .i64 room, .mapv 2, .int .i64 (bufE (putB w xs) l room e)], .dead, .map sq (.int .i64) (.int .i64) h, .row false (.int .u8) (bufB (putB w xs) l room e)]) (.one (.tup []) [.box [.own 1, .int .i64 room, .mapv 2, .int .i64 (failE e 10001)], .row false (.int .u8) l, .map sq (.int .i64) (.int .i64) h]))
  | _, _ => none
def S_buffer_Buffer_Row : List AV → List Obj → Option (Prop × AV × List Obj)
  | [.ptr 0 0, .imm (.int .i64) w, .imm (.int .u64) xs], [.box [.own 1, .int .i64 room, .mapv 2, .int .i64 e], .row false (.int .u8) l, .map sq (.int .i64) (.int .i64) h] => some (0 ≤ room ∧ room ≤ 1000000 ∧ l.length ≤ 1000000, .tup [], [.box [.own 3, .int .i64 room, .mapv 2, .int .i64 (rowE w xs l room e)], .dead, .map sq (.int .i64) (.int .i64) h, .row false (.int .u8) (rowB w xs l room e)])
  | _, _ => none
theorem wnd_buffer_Buffer_Row : SoundS Tryd.prog 63 (RcF W_buffer_Buffer_Row).sum := by
  refine rc_fn Tryd.func63 ok_buffer_Buffer_Row (env_cons (s := RoF S_row_Put) snd_row_Put (env_cons (s := RwF S_buffer_Buffer_Fail) snd_buffer_Buffer_Fail (env_cons (s := RwF S_buffer_Buffer_Bytes) snd_buffer_Buffer_Bytes (env_nil _)))) fun args objs p v e => ?_
  unfold W_buffer_Buffer_Row at e
  split at e
  · rename_i w xs room e l sq h
    cases e
    refine ⟨rfl, fun hw ho hp => ?_⟩
    have hz := putB_len w xs
    repeat' (intro t ht; first | (cases t <;> first | (cases ht; done) | ((try simp only [bn_s] at ht); (try simp only [nd_s] at ht))) | (refine ht ?_ ?_ <;> clear ht) | (refine ht.1 ?_ ?_ <;> clear ht) | (refine ht ?_; clear ht))
    all_goals first
      | exact True.intro
      | exact ⟨hp.1, hp.2.1, hp.2.2, by omega⟩
      | (rw [pick_t (by assumption)]; exact ⟨rfl, rfl⟩)
      | (rw [pick_f (by assumption)]; exact ⟨rfl, rfl⟩)
      | trace_state
  · cases e
theorem snd_buffer_Buffer_Row : SoundS Tryd.prog 63 (RwF S_buffer_Buffer_Row).sum := by
  refine rc_move wnd_buffer_Buffer_Row fun args objs p v o e => ?_
  unfold S_buffer_Buffer_Row at e
  split at e
  · rename_i w xs room e l sq h
    cases e
    cases hb : putK w xs with
    | true =>
      refine ⟨_, _, rfl, pick_t hb, .inl ?_⟩
      unfold rowE rowB; rw [if_pos hb, if_pos hb]
    | false =>
      refine ⟨_, _, rfl, pick_f hb, .inr ⟨0, 1, [], [.int .i64 room, .mapv 2, .int .i64 (failE e 10001)], .int .u8, l, rfl, rfl, ?_⟩⟩
      unfold rowE rowB; rw [hb]; rfl
  · cases e
def wideB (w : Int) : Bool := decide (1 ≤ w) && decide (w ≤ 8)
def wideE (w e : Int) : Int := if wideB w = true then e else failE e 10001
def ir_buffer_Buffer_wide : IR :=
(.seq
(.keep [0, 1]
(.reg (oD 4 (.mov cF) ::
[])))
(.seq
(.keep [0, 1]
(.reg (oM 6 1 ::
oD 7 (.bin .geq (.t 6) (cI 1)) ::
oM 8 7 ::
oT 8 9 (.mov (.t 1)) ::
oT 8 10 (.bin .leq (.t 9) (cI 8)) ::
oD 11 (.pick (.t 8) (.t 10) cF) ::
oM 5 11 ::
[])))
(.seq
(.seq
(.keep [0, 5]
(.reg (oM 12 5 ::
oD 13 (.un .not (.t 12)) ::
[])))
(.cond (.t 13)
(.reg (oM 14 0 ::
oD 15 (.call false (.f 62) [(.t 14), (cI 10001)]) ::
[]))
.skip))
(.seq
(.reg (oM 16 5 ::
oM 4 16 ::
[]))
.ret))))
def rd_buffer_Buffer_wide : List RD := [.tmp 4 true none]
theorem ok_buffer_Buffer_wide : fnOk Tryd.prog Tryd.f109 ir_buffer_Buffer_wide rd_buffer_Buffer_wide = true := by kernel_rfl
def S_buffer_Buffer_wide : List AV → List Obj → Option (Prop × AV × List Obj)
  | [.ptr 0 0, .int .i64 w], [.box [.own 1, .int .i64 room, .mapv 2, .int .i64 e], .row false (.int .u8) l, .map sq (.int .i64) (.int .i64) h] => some ((True, .bool (wideB w), [.box [.own 1, .int .i64 room, .mapv 2, .int .i64 (wideE w e)], .row false (.int .u8) l, .map sq (.int .i64) (.int .i64) h]))
  | _, _ => none
theorem snd_buffer_Buffer_wide : SoundS Tryd.prog 109 (RwF S_buffer_Buffer_wide).sum := by
  refine rw_fn Tryd.func109 ok_buffer_Buffer_wide (env_cons (s := RwF S_buffer_Buffer_Fail) snd_buffer_Buffer_Fail (env_nil _)) fun args objs p v o e => ?_
  unfold S_buffer_Buffer_wide at e
  split at e
  · rename_i w room e l sq h
    cases e
    refine ⟨rfl, fun hw ho hp => ?_⟩
    change List Int at l
    repeat' (intro t ht; first | (cases t <;> first | (cases ht; done) | ((try simp only [bn_s] at ht); (try simp only [nd_s] at ht))) | (refine ht ?_ ?_ <;> clear ht) | (refine ht.1 ?_ ?_ <;> clear ht) | (refine ht ?_; clear ht))
    all_goals first
      | exact True.intro
      | (have hb : wideB w = true := by unfold wideB; simp_all
         have h8 : decide (w ≤ 8) = true := decide_eq_true (by assumption)
         unfold wideE; rw [hb, h8]; exact ⟨rfl, rfl⟩)
      | (have hb : wideB w = false := by unfold wideB; simp_all
         have h8 : decide (w ≤ 8) = false := decide_eq_false (by assumption)
         unfold wideE; rw [hb, h8]; exact ⟨rfl, rfl⟩)
      | (have hb : wideB w = false := by unfold wideB; simp only [Bool.and_eq_false_iff, decide_eq_false_iff_not]; omega
         unfold wideE; rw [hb]; exact ⟨rfl, rfl⟩)
      | trace_state
  · cases e
def nmB (w n : Int) (l : List Int) (room e : Int) : List Int := if wideB w = true then rowB [w] [n] l room e else l
def nmE (w n : Int) (l : List Int) (room e : Int) : Int := if wideB w = true then rowE [w] [n] l room e else failE e 10001
def ir_buffer_Buffer_Num : IR :=
(.seq
(.keep [0, 1, 2]
(.reg (oM 6 0 ::
oM 7 1 ::
oD 8 (.call false (.f 109) [(.t 6), (.t 7)]) ::
[])))
(.cond (.t 8)
(.keep [0, 1, 2]
(.reg (oM 9 0 ::
oM 10 1 ::
oD 11 (.sliceAll (.int .i64) 1 [(0, 1, (.t 10))]) ::
oM 12 2 ::
oD 13 (.sliceAll (.int .u64) 1 [(0, 1, (.t 12))]) ::
oD 14 (.call false (.f 63) [(.t 9), (.t 11), (.t 13)]) ::
[])))
.skip))
def rd_buffer_Buffer_Num : List RD := []
theorem ok_buffer_Buffer_Num : fnOk Tryd.prog Tryd.f91 ir_buffer_Buffer_Num rd_buffer_Buffer_Num = true := by kernel_rfl
def W_buffer_Buffer_Num : List AV → List Obj → Option (Prop × Res)
  | [.ptr 0 0, .int .i64 w, .int .u64 n], [.box [.own 1, .int .i64 room, .mapv 2, .int .i64 e], .row false (.int .u8) l, .map sq (.int .i64) (.int .i64) h] => some (0 ≤ room ∧ room ≤ 1000000 ∧ l.length ≤ 1000000, .br (wideB w) (.one (.tup []) [.box [.own 3, .int .i64 room, .mapv 2, .int .i64 (rowE [w] [n] l room (wideE w e))], .dead, .map sq (.int .i64) (.int .i64) h, .row false (.int .u8) (rowB [w] [n] l room (wideE w e))]) (.one (.tup []) [.box [.own 1, .int .i64 room, .mapv 2, .int .i64 (wideE w e)], .row false (.int .u8) l, .map sq (.int .i64) (.int .i64) h]))
  | _, _ => none
def S_buffer_Buffer_Num : List AV → List Obj → Option (Prop × AV × List Obj)
  | [.ptr 0 0, .int .i64 w, .int .u64 n], [.box [.own 1, .int .i64 room, .mapv 2, .int .i64 e], .row false (.int .u8) l, .map sq (.int .i64) (.int .i64) h] => some (0 ≤ room ∧ room ≤ 1000000 ∧ l.length ≤ 1000000, .tup [], [.box [.own 3, .int .i64 room, .mapv 2, .int .i64 (nmE w n l room e)], .dead, .map sq (.int .i64) (.int .i64) h, .row false (.int .u8) (nmB w n l room e)])
  | _, _ => none
theorem wnd_buffer_Buffer_Num : SoundS Tryd.prog 91 (RcF W_buffer_Buffer_Num).sum := by
  refine rc_fn Tryd.func91 ok_buffer_Buffer_Num (env_cons (s := RwF S_buffer_Buffer_wide) snd_buffer_Buffer_wide (env_cons (s := RwF S_buffer_Buffer_Row) snd_buffer_Buffer_Row (env_nil _))) fun args objs p v e => ?_
  unfold W_buffer_Buffer_Num at e
  split at e
  · rename_i w n room e l sq h
    cases e
    refine ⟨rfl, fun hw ho hp => ?_⟩
    repeat' (intro t ht; first | (cases t <;> first | (cases ht; done) | ((try simp only [bn_s] at ht); (try simp only [nd_s] at ht))) | (refine ht ?_ ?_ <;> clear ht) | (refine ht.1 ?_ ?_ <;> clear ht) | (refine ht ?_; clear ht))
    all_goals first
      | exact True.intro
      | exact hp
      | (rw [pick_t (by assumption)]; exact ⟨rfl, rfl⟩)
      | (rw [pick_f (by assumption)]; exact ⟨rfl, rfl⟩)
      | trace_state
  · cases e
theorem snd_buffer_Buffer_Num : SoundS Tryd.prog 91 (RwF S_buffer_Buffer_Num).sum := by
  refine rc_move wnd_buffer_Buffer_Num fun args objs p v o e => ?_
  unfold S_buffer_Buffer_Num at e
  split at e
  · rename_i w n room e l sq h
    cases e
    cases hb : wideB w with
    | true =>
      refine ⟨_, _, rfl, pick_t hb, .inl ?_⟩
      unfold nmE nmB wideE; rw [hb]; rfl
    | false =>
      refine ⟨_, _, rfl, pick_f hb, .inr ⟨0, 1, [], [.int .i64 room, .mapv 2, .int .i64 (wideE w e)], .int .u8, l, rfl, rfl, ?_⟩⟩
      unfold nmE nmB wideE; rw [hb]; rfl
  · cases e
def doneB (h : List (Int × Int)) (e : Int) : Bool := decide (e = 0) && decide (h.length = 0)
def doneL (l : List Int) (h : List (Int × Int)) (e : Int) : List Int := if doneB h e = true then l else []
def doneE (h : List (Int × Int)) (e : Int) : Int := if e = 0 then (if h.length = 0 then 0 else 10001) else e
def ir_buffer_Buffer_Done : IR :=
(.seq
(.keep [0]
(.reg (oD 2 (.mov (.c (.imm (.int .u8) []))) ::
oD 3 (.mov (cI 0)) ::
[])))
(.seq
(.block 0
(.seq
(.reg (oM 5 0 ::
oD 6 (.call false (.f 66) [(.t 5)]) ::
oM 4 6 ::
[]))
(.cond (.t 4)
(.seq
(.reg (oD 2 (.mov (.c (.imm (.int .u8) []))) ::
oD 3 (.mov (cI 10001)) ::
[]))
.ret)
(.seq
(.keep [0]
(.reg (oM 8 0 ::
oD 9 (.nilck (.t 8)) ::
oD 10 (.fieldAddr 3 (.t 9)) ::
oL 11 10 ::
oD 12 (.bin .neq (.t 11) (cI 0)) ::
oM 7 12 ::
[])))
(.cond (.t 7)
(.seq
(.keep [0]
(.regD ((oM 13 0, []) ::
(oD 14 (.nilck (.t 13)), []) ::
(oD 15 (.fieldAddr 3 (.t 14)), []) ::
(oL 16 15, []) ::
(oD 2 (.mov (.c (.imm (.int .u8) []))), [0, 0, 0, 0]) ::
(oM 3 16, []) ::
[])))
.ret)
(.seq
(.keep [0]
(.reg (oM 18 0 ::
oD 19 (.nilck (.t 18)) ::
oD 20 (.fieldAddr 2 (.t 19)) ::
oL 21 20 ::
oD 22 (.mlen (.t 21)) ::
oD 23 (.bin .gtr (.t 22) (cI 0)) ::
oM 17 23 ::
[])))
(.cond (.t 17)
(.seq
(.keep []
(.reg (oD 2 (.mov (.c (.imm (.int .u8) []))) ::
oD 3 (.mov (cI 10001)) ::
[])))
.ret)
.skip)))))))
(.seq
(.keep [0]
(.reg (oM 24 0 ::
oD 25 (.nilck (.t 24)) ::
oD 26 (.fieldAddr 0 (.t 25)) ::
oL 27 26 ::
oD 28 (.call false (.f 67) [(.t 27)]) ::
oM 2 28 ::
oD 3 (.mov (cI 0)) ::
[])))
.ret)))
def rd_buffer_Buffer_Done : List RD := [.tmp 2 true (some (.int .u8)), .tmp 3 true none]
theorem ok_buffer_Buffer_Done : fnOk Tryd.prog Tryd.f40 ir_buffer_Buffer_Done rd_buffer_Buffer_Done = true := by kernel_rfl
def W_buffer_Buffer_Done : List AV → List Obj → Option (Prop × Res)
  | [.ptr 0 0], [.box [.own 1, .int .i64 room, .mapv 2, .int .i64 e], .row false (.int .u8) l, .map sq (.int .i64) (.int .i64) h] => some (l.length ≤ 140737488355328 ∧ h.length ≤ 140737488355328, .br (doneB h e) (.one (.tup [.imm (.int .u8) l, .int .i64 0]) [.box [.own 1, .int .i64 room, .mapv 2, .int .i64 e], .row true (.int .u8) l, .map sq (.int .i64) (.int .i64) h]) (.one (.tup [.imm (.int .u8) [], .int .i64 (doneE h e)]) [.box [.own 1, .int .i64 room, .mapv 2, .int .i64 e], .row false (.int .u8) l, .map sq (.int .i64) (.int .i64) h]))
  | _, _ => none
def S_buffer_Buffer_Done : List AV → List Obj → Option (Prop × AV × List Obj)
  | [.ptr 0 0], [.box [.own 1, .int .i64 room, .mapv 2, .int .i64 e], .row false (.int .u8) l, .map sq (.int .i64) (.int .i64) h] => some (l.length ≤ 140737488355328 ∧ h.length ≤ 140737488355328, .tup [.imm (.int .u8) (doneL l h e), .int .i64 (doneE h e)], [.box [.own 1, .int .i64 room, .mapv 2, .int .i64 e], .dead, .map sq (.int .i64) (.int .i64) h])
  | _, _ => none
theorem wnd_buffer_Buffer_Done : SoundS Tryd.prog 40 (RcF W_buffer_Buffer_Done).sum := by
  refine rc_fn Tryd.func40 ok_buffer_Buffer_Done (env_cons (s := RoF S_buffer_Buffer_none) snd_buffer_Buffer_none (env_cons (s := RoF S_bytes_Clone) snd_bytes_Clone (env_nil _))) fun args objs p v e => ?_
  unfold W_buffer_Buffer_Done at e
  split at e
  · rename_i room e l sq h
    cases e
    change List (Int × Int) at h
    refine ⟨rfl, fun hw ho hp => ?_⟩
    repeat' (intro t ht; first | (cases t <;> first | (cases ht; done) | ((try simp only [bn_s] at ht); (try simp only [nd_s] at ht))) | (refine ht ?_ ?_ <;> clear ht) | (refine ht.1 ?_ ?_ <;> clear ht) | (refine ht ?_; clear ht))
    all_goals first
      | exact True.intro
      | exact hp.1
      | exact hp.2
      | (have hb : doneB h e = true := by unfold doneB; simp only [Bool.and_eq_true, decide_eq_true_eq]; omega
         rw [pick_t hb]; exact ⟨rfl, rfl⟩)
      | (have hb : doneB h e = false := by unfold doneB; simp only [Bool.and_eq_false_iff, decide_eq_false_iff_not]; omega
         rw [pick_f hb]
         unfold doneE
         first
           | (rw [if_neg (by assumption)]; exact ⟨rfl, rfl⟩)
           | (have h0 : e = 0 := by assumption
              have h1 : ¬ h.length = 0 := by omega
              rw [if_pos h0, if_neg h1]; exact ⟨rfl, rfl⟩))
      | trace_state
  · cases e
theorem snd_buffer_Buffer_Done : SoundS Tryd.prog 40 (RwF S_buffer_Buffer_Done).sum := by
  refine rc_kill wnd_buffer_Buffer_Done fun args objs p v o e => ?_
  unfold S_buffer_Buffer_Done at e
  split at e
  · rename_i room e l sq h
    cases e
    change List (Int × Int) at h
    cases hb : doneB h e with
    | true =>
      have h1 : e = 0 := by unfold doneB at hb; simp_all
      have h2 : h.length = 0 := by unfold doneB at hb; simp_all
      refine ⟨_, [.box [.own 1, .int .i64 room, .mapv 2, .int .i64 e], .row true (.int .u8) l, .map sq (.int .i64) (.int .i64) h], 1, rfl, ?_, by simp, rfl⟩
      rw [pick_t hb]; unfold doneL doneE; rw [if_pos hb, if_pos h1, if_pos h2]; rfl
    | false =>
      refine ⟨_, [.box [.own 1, .int .i64 room, .mapv 2, .int .i64 e], .row false (.int .u8) l, .map sq (.int .i64) (.int .i64) h], 1, rfl, ?_, by simp, rfl⟩
      rw [pick_f hb]; unfold doneL; rw [hb]; rfl
  · cases e
end Go.Eng
