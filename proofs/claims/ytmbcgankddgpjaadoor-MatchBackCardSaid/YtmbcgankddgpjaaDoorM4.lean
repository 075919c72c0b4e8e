/- Contracts of functions of the given program, told by plain Lean functions. No condition. -/
import Derived.Test.YtmbcgankddgpjaaDoorProg
import Derived.Test.YtmbcgankddgpjaaDoorEArg
import Derived.KernelRfl
import Derived.Test.YtmbcgankddgpjaaDoorM3
namespace Go.Eng
open Go.Proofs
set_option linter.unusedVariables false
set_option linter.unusedSimpArgs false
set_option maxRecDepth 100000
set_option maxHeartbeats 1000000
def exO (o : OV) : List Int := if rgO o = true then encO o.1 o.2.1 o.2.2.1 o.2.2.2.1 o.2.2.2.2.1 o.2.2.2.2.2.1 else []
def eeO (o : OV) : Int := if rgO o = true then 0 else 10001
def puS (room : Int) : List OV → List Int → Int → List Int × Int
  | [], l, e => (l, e)
  | o :: r, l, e => puS room r (bufB (exO o) l room (failE e (eeO o))) (bufE (exO o) l room (failE e (eeO o)))
theorem puS_step {room : Int} {l : List OV} {i : Nat} {d : OV} {b : List Int} {e : Int} (h : i < l.length) : puS room (l.drop i) b e = puS room (l.drop (i + 1)) (bufB (exO (l.getD i d)) b room (failE e (eeO (l.getD i d)))) (bufE (exO (l.getD i d)) b room (failE e (eeO (l.getD i d)))) := by
  rw [drop_step h d]; rfl
def mpS (x : List OV) (l : List Int) (room e : Int) : List Int × Int := puS room x (rowB [2, 2] [1, longO x] l room e) (rowE [2, 2] [1, longO x] l room e)
def mpZ (x : List OV) : List Int := List.replicate (pz (longO x)).toNat 0
def mpB (x : List OV) (l : List Int) (room e : Int) : List Int := if rgM x = true then bufB (mpZ x) (mpS x l room e).1 room (mpS x l room e).2 else l
def mpE (x : List OV) (l : List Int) (room e : Int) : Int := if rgM x = true then bufE (mpZ x) (mpS x l room e).1 room (mpS x l room e).2 else failE e 10001
theorem exO_le {o : OV} : (exO o).length ≤ 300 := by
  unfold exO; split
  · exact (sizeO_right (by assumption)).2
  · simp
def ir_match_Put : IR :=
(.seq
(.seq
(.keep [0, 1]
(.reg (oM 9 1 ::
oD 10 (.call false (.f 19) [(.t 9)]) ::
oD 11 (.un .not (.t 10)) ::
[])))
(.cond (.t 11)
(.seq
(.reg (oM 12 0 ::
oD 13 (.call false (.f 62) [(.t 12), (cI 10001)]) ::
[]))
.ret)
.skip))
(.seq
(.reg (oM 14 1 ::
oD 15 (.call false (.f 54) [(.t 14)]) ::
oM 4 15 ::
[]))
(.seq
(.keep [0, 1, 4]
(.reg (oM 16 0 ::
oD 17 (.sliceAll (.int .i64) 2 [(0, 1, (cI 2)), (1, 1, (cI 2))]) ::
oM 18 4 ::
oD 19 (.conv .u64 (.t 18)) ::
oD 20 (.sliceAll (.int .u64) 2 [(0, 1, (.c (.int .u64 1))), (1, 1, (.t 19))]) ::
oD 21 (.call false (.f 63) [(.t 16), (.t 17), (.t 20)]) ::
[])))
(.seq
(.seq
(.reg (oM 22 1 ::
oD 23 (.len (.t 22)) ::
oD 24 (.mov (cI 0)) ::
[]))
(.block 0
(.loop
(.seq
(.keep [0, 4, 22, 23, 24]
(.reg (oD 25 (.bin .lss (.t 24) (.t 23)) ::
[])))
(.seq
(.cond (.t 25)
.skip
(.exit 0))
(.seq
(.block 1
(.seq
(.reg (oD 26 (.indexSl 6 (.t 22) (.t 24)) ::
oD 27 (.load (some 6) (.t 26)) ::
oD 6 (.box [.int .i64 0, .int .i64 0, .kb false, .int .u64 0, .imm (.int .u8) [], .imm (.int .u8) []]) ::
oN (.store 6 (.t 6) (.t 27)) ::
[]))
(.seq
(.keep [0, 4, 6, 22, 23, 24]
(.reg (oD 29 (.load (some 6) (.t 6)) ::
oD 30 (.call false (.f 64) [(.t 29)]) ::
oM 28 30 ::
oD 31 (.extract (.t 28) 0) ::
oD 32 (.extract (.t 28) 1) ::
oM 7 31 ::
oM 8 32 ::
[])))
(.seq
(.keep [0, 4, 7, 8, 22, 23, 24]
(.reg (oM 33 0 ::
oM 34 8 ::
oD 35 (.call false (.f 62) [(.t 33), (.t 34)]) ::
[])))
(.reg (oM 36 0 ::
oM 37 7 ::
oD 38 (.call false (.f 65) [(.t 36), (.t 37)]) ::
[]))))))
(.keep [0, 4, 22, 23, 24]
(.reg (oD 39 (.bin .add (.t 24) (cI 1)) ::
oM 24 39 ::
[])))))))))
(.keep [0, 4]
(.reg (oM 40 0 ::
oM 41 4 ::
oD 42 (.call false (.f 44) [(.t 41)]) ::
oD 43 (.mkrow (.int .u8) 1 (0 : Int) (.t 42) (.t 42)) ::
oD 44 (.call false (.f 65) [(.t 40), (.t 43)]) ::
[])))))))
def rd_match_Put : List RD := []
theorem ok_match_Put : fnOk Tryd.prog Tryd.f39 ir_match_Put rd_match_Put = true := by kernel_rfl
def W_match_Put : List AV → List Obj → Option (Prop × Res)
  | [.ptr 0 0, .imm (.cons (.int .i64) (.cons (.int .i64) (.cons .bool (.cons (.int .u64) (.cons (.sl (.int .u8)) (.cons (.sl (.int .u8)) .nil)))))) x], [.box [.own 1, .int .i64 room, .mapv 2, .int .i64 e], .row false (.int .u8) l, .map sq (.int .i64) (.int .i64) h] => some (okM x ∧ 0 ≤ room ∧ room ≤ 1000000 ∧ l.length ≤ 1000000, .br (rgM x) (.one (.tup []) [.box [.own 3, .int .i64 room, .mapv 2, .int .i64 (mpE x l room e)], .dead, .map sq (.int .i64) (.int .i64) h, .row false (.int .u8) (mpB x l room e)]) (.one (.tup []) [.box [.own 1, .int .i64 room, .mapv 2, .int .i64 (failE e 10001)], .row false (.int .u8) l, .map sq (.int .i64) (.int .i64) h]))
  | _, _ => none
def S_match_Put : List AV → List Obj → Option (Prop × AV × List Obj)
  | [.ptr 0 0, .imm (.cons (.int .i64) (.cons (.int .i64) (.cons .bool (.cons (.int .u64) (.cons (.sl (.int .u8)) (.cons (.sl (.int .u8)) .nil)))))) x], [.box [.own 1, .int .i64 room, .mapv 2, .int .i64 e], .row false (.int .u8) l, .map sq (.int .i64) (.int .i64) h] => some (okM x ∧ 0 ≤ room ∧ room ≤ 1000000 ∧ l.length ≤ 1000000, .tup [], [.box [.own 3, .int .i64 room, .mapv 2, .int .i64 (mpE x l room e)], .dead, .map sq (.int .i64) (.int .i64) h, .row false (.int .u8) (mpB x l room e)])
  | _, _ => none
theorem wnd_match_Put : SoundS Tryd.prog 39 (RcF W_match_Put).sum := by
  refine rc_fn Tryd.func39 ok_match_Put (env_cons (s := RoF S_match_Right) snd_match_Right (env_cons (s := RwF S_buffer_Buffer_Fail) snd_buffer_Buffer_Fail (env_cons (s := RoF S_match_long) snd_match_long (env_cons (s := RwF S_buffer_Buffer_Row) snd_buffer_Buffer_Row (env_cons (s := RoF S_oxm_Encode) snd_oxm_Encode (env_cons (s := RwF S_buffer_Buffer_Bytes) snd_buffer_Buffer_Bytes (env_cons (s := RoF S_match_zeros) snd_match_zeros (env_nil _)))))))) fun args objs p v e => ?_
  unfold W_match_Put at e
  split at e
  · rename_i x room e l sq h
    cases e
    change List Int at l
    change List OV at x
    refine ⟨rfl, fun hw' ho hp => ?_⟩
    clear hw' ho
    obtain ⟨hok, hp1, hp2, hp3⟩ := hp
    have hok' := hok
    have hn := hok.n
    cases hr : rgM x with
    | false =>
      repeat' (intro t ht; first | (cases t <;> first | (cases ht; done) | ((try simp only [bn_s] at ht); (try simp only [nd_s] at ht); (try (exfalso; first | contradiction | omega)))) | (refine ht ?_ ?_ <;> clear ht) | (refine ht.1 ?_ ?_ <;> clear ht) | (refine ht ?_; clear ht))
      all_goals first
        | exact True.intro
        | exact hok
        | (exfalso; simp_all; done)
        | exact ⟨rfl, rfl⟩
        | trace_state
    | true =>
      have hL := longO_le hok
      have hL2 : longO x ≤ 65528 := by unfold rgM at hr; simp only [Bool.and_eq_true, decide_eq_true_eq] at hr; exact hr.2
      have hz := pz_le (n := longO x) (by omega)
      have hr1 : (rowB [2, 2] [1, longO x] l room e).length ≤ 1000000 := rowB_lim hp3 hp2
      repeat' (intro t ht; first | (cases t <;> first | (cases ht; done) | ((try simp only [bn_s] at ht); (try simp only [nd_s] at ht); (try (exfalso; first | contradiction | omega)))) | (refine ht ?_ ?_ <;> clear ht) | (refine ht.1 ?_ ?_ <;> clear ht) | (refine ht ?_; clear ht))
      all_goals first
        | exact True.intro
        | exact hok
        | (exfalso; simp_all; done)
        | ((try simp only [nd_s, bn_s, mm_s] at *); omega)
        | exact ⟨hp1, hp2, hp3⟩
        | (intro r h1 h2; clear h1; refine h2 ⟨[0, 4, 22, 23, 24], Nat × List Int × Int, (fun a => a.1 ≤ x.length ∧ a.2.1.length ≤ 1000000 ∧ mpS x l room e = puS room (x.drop a.1) a.2.1 a.2.2), fun a => [.ptr 0 0, .int .i64 (longO x), .imm (.cons (.int .i64) (.cons (.int .i64) (.cons .bool (.cons (.int .u64) (.cons (.sl (.int .u8)) (.cons (.sl (.int .u8)) .nil)))))) x, .int .i64 x.length, .int .i64 a.1], fun a => [.box [.own 3, .int .i64 room, .mapv 2, .int .i64 a.2.2], .dead, .map sq (.int .i64) (.int .i64) h, .row false (.int .u8) a.2.1], fun a => x.length - a.1, ⟨(0, rowB [2, 2] [1, longO x] l room e, rowE [2, 2] [1, longO x] l room e), ⟨Nat.zero_le _, hr1, rfl⟩, rfl, rfl⟩, ?_⟩; clear h2)
        | trace_state
      rintro ⟨i, b, f⟩ ⟨hi, hb, he⟩
      dsimp only at hi hb he
      repeat' (intro t ht; first | (cases t <;> first | (cases ht; done) | ((try simp only [bn_s] at ht); (try simp only [nd_s] at ht); (try (exfalso; first | contradiction | omega)))) | (refine ht ?_ ?_ <;> clear ht) | (refine ht.1 ?_ ?_ <;> clear ht) | (refine ht ?_; clear ht))
      all_goals (try generalize (Ty.dflt (.cons (.int .i64) (.cons (.int .i64) (.cons .bool (.cons (.int .u64) (.cons (.sl (.int .u8)) (.cons (.sl (.int .u8)) .nil))))))) = od at *)
      all_goals first
        | exact True.intro
        | ((try simp only [nd_s, bn_s, mm_s] at *); omega)
        | (simp only [List.length_replicate]; constructor <;> omega)
        | exact ⟨hp1, hp2, hb, Nat.le_trans (exO_le (o := x.getD i od)) (by decide)⟩
        | exact lenM (hok'.a.h _ (getD_mem' (show i < x.length by omega) od))
        | (rw [List.drop_of_length_le (show x.length ≤ i by omega)] at he
           have h1 : mpS x l room e = (b, f) := he
           unfold mpE mpB
           rw [if_pos hr, if_pos hr, h1]; exact ⟨rfl, rfl⟩)
        | (refine ⟨(i + 1, _, _), ⟨?_, ?_, he.trans (puS_step (d := od) (show i < x.length by omega))⟩, ?_, rfl, rfl⟩
           · dsimp only; omega
           · exact bufB_lim hb hp2
           · dsimp only; omega)
        | trace_state
  · cases e
theorem snd_match_Put : SoundS Tryd.prog 39 (RwF S_match_Put).sum := by
  refine rc_move wnd_match_Put fun args objs p v o e => ?_
  unfold S_match_Put at e
  split at e
  · rename_i x room e l sq h
    cases e
    cases hb : rgM x with
    | true => exact ⟨_, _, rfl, pick_t hb, .inl rfl⟩
    | false =>
      refine ⟨_, _, rfl, pick_f hb, .inr ⟨0, 1, [], [.int .i64 room, .mapv 2, .int .i64 (failE e 10001)], .int .u8, l, rfl, rfl, ?_⟩⟩
      unfold mpE mpB; rw [hb]; rfl
  · cases e
end Go.Eng
