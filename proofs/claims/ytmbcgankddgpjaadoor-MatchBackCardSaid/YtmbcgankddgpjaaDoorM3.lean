/- Contracts of functions of the given program, told by plain Lean functions. No condition. -/
import Derived.Test.YtmbcgankddgpjaaDoorProg
import Derived.Test.YtmbcgankddgpjaaDoorEArg
import Derived.KernelRfl
import Derived.Test.YtmbcgankddgpjaaDoorM2
import Derived.Test.YtmbcgankddgpjaaDoorA2
namespace Go.Eng
open Go.Proofs
set_option linter.unusedVariables false
set_option linter.unusedSimpArgs false
set_option maxRecDepth 100000
set_option maxHeartbeats 1000000
def fwO (o : OV) : Bool := decide (o.2.2.2.2.1.length ≤ 300) && decide (o.2.2.2.2.2.1.length ≤ 300)
theorem fwO_t {o : OV} (h : o.2.2.2.2.1.length ≤ 300 ∧ o.2.2.2.2.2.1.length ≤ 300) : fwO o = true := by unfold fwO; simp [h.1, h.2]
theorem fwO_f {o : OV} (h : ¬ o.2.2.2.2.1.length ≤ 300 ∨ ¬ o.2.2.2.2.2.1.length ≤ 300) : fwO o = false := by unfold fwO; rcases h with h | h <;> simp [h]
def fewO (l : List OV) : Bool := l.all fwO && decide (l.length ≤ 60)
def smO (a b : OV) : Bool := sameO a.1 a.2.1 a.2.2.1 a.2.2.2.1 a.2.2.2.2.1 a.2.2.2.2.2.1 b.1 b.2.1 b.2.2.1 b.2.2.2.1 b.2.2.2.2.1 b.2.2.2.2.2.1
theorem smO_t {a b : OV} (h : smO a b = true) : a = b := by
  obtain ⟨a1, a2, a3, a4, a5, a6, _⟩ := a
  obtain ⟨b1, b2, b3, b4, b5, b6, _⟩ := b
  unfold smO sameO at h
  simp only [Bool.and_eq_true, decide_eq_true_eq, beq_iff_eq] at h
  obtain ⟨⟨⟨⟨⟨h1, h2⟩, h3⟩, h4⟩, h5⟩, h6⟩ := h
  rw [h1, h2, h3, h4, h5, h6]
theorem smO_f {a b : OV} (h : smO a b = false) : ¬ a = b := fun e => by
  rw [e] at h; unfold smO at h; rw [same_self] at h; cases h
structure okM (l : List OV) : Prop where
  a : allLen l
  n : l.length ≤ 100000
theorem few_ok {l : List OV} (h : fewO l = true) : okM l ∧ l.length ≤ 60 := by
  unfold fewO at h
  simp only [Bool.and_eq_true, decide_eq_true_eq] at h
  refine ⟨⟨⟨fun o ho => ?_⟩, by omega⟩, h.2⟩
  have := List.all_eq_true.1 h.1 o ho
  unfold fwO at this
  simp only [Bool.and_eq_true, decide_eq_true_eq] at this
  exact ⟨by omega, by omega⟩
def ir_r09_Few : IR :=
(.seq
(.keep [0]
(.reg (oD 2 (.mov cF) ::
[])))
(.seq
(.seq
(.reg (oD 3 (.mov (cI 0)) ::
[]))
(.block 0
(.loop
(.seq
(.seq
(.keep [0, 3]
(.reg (oM 4 3 ::
oM 5 0 ::
oD 6 (.len (.t 5)) ::
oD 7 (.bin .lss (.t 4) (.t 6)) ::
[])))
(.cond (.t 7)
.skip
(.exit 0)))
(.seq
(.block 1
(.seq
(.keep [0, 3]
(.reg (oM 10 0 ::
oM 11 3 ::
oD 12 (.indexSl 6 (.t 10) (.t 11)) ::
oD 13 (.load (some 6) (.t 12)) ::
oD 14 (.call false (.f 37) [(.t 13)]) ::
oD 15 (.un .not (.t 14)) ::
[])))
(.cond (.t 15)
(.seq
(.keep []
(.reg (oD 2 (.mov cF) ::
[])))
.ret)
.skip)))
(.keep [0, 3]
(.reg (oM 8 3 ::
oD 9 (.bin .add (.t 8) (cI 1)) ::
oM 3 9 ::
[]))))))))
(.seq
(.keep [0]
(.reg (oM 16 0 ::
oD 17 (.len (.t 16)) ::
oD 18 (.bin .leq (.t 17) (cI 60)) ::
oM 2 18 ::
[])))
.ret)))
def rd_r09_Few : List RD := [.tmp 2 true none]
theorem ok_r09_Few : fnOk Tryd.prog Tryd.f14 ir_r09_Few rd_r09_Few = true := by kernel_rfl
def S_r09_Few : List AV → List Obj → Option (Prop × AV)
  | [.imm (.cons (.int .i64) (.cons (.int .i64) (.cons .bool (.cons (.int .u64) (.cons (.sl (.int .u8)) (.cons (.sl (.int .u8)) .nil)))))) l], [] => some ((True, .bool (fewO l)))
  | _, _ => none
theorem snd_r09_Few : SoundS Tryd.prog 14 (RoF S_r09_Few).sum := by
  refine ro_fn Tryd.func14 ok_r09_Few (env_cons (s := RoF S_r08_Few) snd_r08_Few (env_nil _)) fun args objs p v e => ?_
  unfold S_r09_Few at e
  split at e
  · rename_i l
    cases e
    refine ⟨rfl, fun hw ho hp => ?_⟩
    change List OV at l
    have hl : l.length ≤ maxLen := (hw (.imm (.cons (.int .i64) (.cons (.int .i64) (.cons .bool (.cons (.int .u64) (.cons (.sl (.int .u8)) (.cons (.sl (.int .u8)) .nil)))))) l) (by simp)).2
    unfold maxLen at hl
    clear hw ho
    repeat' (intro t ht; first | (cases t <;> first | (cases ht; done) | ((try simp only [bn_s] at ht); (try simp only [nd_s] at ht))) | (refine ht ?_ ?_ <;> clear ht) | (refine ht.1 ?_ ?_ <;> clear ht) | (refine ht ?_; clear ht))
    all_goals first
      | (intro r h1 h2; clear h1; refine h2 ⟨[0, 3], Nat, (fun i => i ≤ l.length ∧ (l.take i).all fwO = true), fun i => [.imm (.cons (.int .i64) (.cons (.int .i64) (.cons .bool (.cons (.int .u64) (.cons (.sl (.int .u8)) (.cons (.sl (.int .u8)) .nil)))))) l, .int .i64 i], fun _ => [], fun i => l.length - i, ⟨0, ⟨Nat.zero_le _, rfl⟩, rfl, rfl⟩, ?_⟩; clear h2)
    rintro i ⟨hi, he⟩
    repeat' (intro t ht; first | (cases t <;> first | (cases ht; done) | ((try simp only [bn_s] at ht); (try simp only [nd_s] at ht); (try (exfalso; first | contradiction | omega)))) | (refine ht ?_ ?_ <;> clear ht) | (refine ht.1 ?_ ?_ <;> clear ht) | (refine ht ?_; clear ht))
    all_goals (try generalize (Ty.dflt (.cons (.int .i64) (.cons (.int .i64) (.cons .bool (.cons (.int .u64) (.cons (.sl (.int .u8)) (.cons (.sl (.int .u8)) .nil))))))) = od at *)
    all_goals first
      | ((try simp only [nd_s, bn_s, mm_s] at *); omega)
      | (have h := allT_end (by omega) he
         refine ⟨?_, rfl⟩; unfold fewO; rw [h, Bool.true_and]; congr 1; exact decide_eq_decide.2 (by omega))
      | exact True.intro
      | (have hf := fwO_t ht
         exact ⟨i + 1, ⟨by omega, allT_step (d := od) (by omega) he hf⟩, by dsimp only; omega, rfl, rfl⟩)
      | (have hf := fwO_f ht
         have h : fewO l = false := by unfold fewO; rw [all_miss (d := od) (show i < l.length by omega) hf, Bool.false_and]
         refine ⟨?_, rfl⟩; rw [h]; done)
      | trace_state
  · cases e
def ir_r09_Same : IR :=
(.seq
(.keep [0, 1]
(.reg (oD 4 (.mov cF) ::
[])))
(.seq
(.seq
(.keep [0, 1]
(.reg (oM 6 0 ::
oD 7 (.len (.t 6)) ::
oM 8 1 ::
oD 9 (.len (.t 8)) ::
oD 10 (.bin .neq (.t 7) (.t 9)) ::
[])))
(.cond (.t 10)
(.seq
(.reg (oD 4 (.mov cF) ::
[]))
.ret)
.skip))
(.seq
(.seq
(.keep [0, 1]
(.reg (oD 5 (.mov (cI 0)) ::
[])))
(.block 0
(.loop
(.seq
(.seq
(.keep [0, 1, 5]
(.reg (oM 11 5 ::
oM 12 0 ::
oD 13 (.len (.t 12)) ::
oD 14 (.bin .lss (.t 11) (.t 13)) ::
[])))
(.cond (.t 14)
.skip
(.exit 0)))
(.seq
(.block 1
(.seq
(.keep [0, 1, 5]
(.regD ((oM 17 0, []) ::
(oM 18 5, [0]) ::
(oD 19 (.indexSl 6 (.t 17) (.t 18)), []) ::
(oD 20 (.load (some 6) (.t 19)), []) ::
(oM 21 1, [0, 0, 0, 0]) ::
(oM 22 5, [0, 0, 0, 0, 0]) ::
(oD 23 (.indexSl 6 (.t 21) (.t 22)), [2, 0, 0, 0]) ::
(oD 24 (.load (some 6) (.t 23)), [3, 0, 0, 0]) ::
(oD 25 (.call false (.f 49) [(.t 20), (.t 24)]), []) ::
(oD 26 (.un .not (.t 25)), []) ::
[])))
(.cond (.t 26)
(.seq
(.keep []
(.reg (oD 4 (.mov cF) ::
[])))
.ret)
.skip)))
(.keep [0, 1, 5]
(.reg (oM 15 5 ::
oD 16 (.bin .add (.t 15) (cI 1)) ::
oM 5 16 ::
[]))))))))
(.seq
(.keep []
(.reg (oD 4 (.mov cT) ::
[])))
.ret))))
def rd_r09_Same : List RD := [.tmp 4 true none]
theorem ok_r09_Same : fnOk Tryd.prog Tryd.f18 ir_r09_Same rd_r09_Same = true := by kernel_rfl
def S_r09_Same : List AV → List Obj → Option (Prop × AV)
  | [.imm (.cons (.int .i64) (.cons (.int .i64) (.cons .bool (.cons (.int .u64) (.cons (.sl (.int .u8)) (.cons (.sl (.int .u8)) .nil)))))) a, .imm (.cons (.int .i64) (.cons (.int .i64) (.cons .bool (.cons (.int .u64) (.cons (.sl (.int .u8)) (.cons (.sl (.int .u8)) .nil)))))) b], [] => some ((True, .bool (decide ((a : List OV) = b))))
  | _, _ => none
theorem snd_r09_Same : SoundS Tryd.prog 18 (RoF S_r09_Same).sum := by
  refine ro_fn Tryd.func18 ok_r09_Same (env_cons (s := RoF S_r08_Same) snd_r08_Same (env_nil _)) fun args objs p v e => ?_
  unfold S_r09_Same at e
  split at e
  · rename_i a b
    cases e
    refine ⟨rfl, fun hw ho hp => ?_⟩
    change List OV at a
    change List OV at b
    have hl : a.length ≤ maxLen := (hw (.imm (.cons (.int .i64) (.cons (.int .i64) (.cons .bool (.cons (.int .u64) (.cons (.sl (.int .u8)) (.cons (.sl (.int .u8)) .nil)))))) a) (by simp)).2
    unfold maxLen at hl
    clear hw ho
    repeat' (intro t ht; first | (cases t <;> first | (cases ht; done) | ((try simp only [bn_s] at ht); (try simp only [nd_s] at ht))) | (refine ht ?_ ?_ <;> clear ht) | (refine ht.1 ?_ ?_ <;> clear ht) | (refine ht ?_; clear ht))
    all_goals first
      | (have hne : a ≠ b := fun h => (by assumption : ¬ (a.length : Int) = b.length) (by rw [h])
         refine ⟨?_, rfl⟩; rw [decide_eq_false hne]; done)
      | (intro r h1 h2; clear h1; refine h2 ⟨[0, 1, 5], Nat, (fun i => i ≤ a.length ∧ a.take i = b.take i), fun i => [.imm (.cons (.int .i64) (.cons (.int .i64) (.cons .bool (.cons (.int .u64) (.cons (.sl (.int .u8)) (.cons (.sl (.int .u8)) .nil)))))) a, .imm (.cons (.int .i64) (.cons (.int .i64) (.cons .bool (.cons (.int .u64) (.cons (.sl (.int .u8)) (.cons (.sl (.int .u8)) .nil)))))) b, .int .i64 i], fun _ => [], fun i => a.length - i, ⟨0, ⟨Nat.zero_le _, rfl⟩, rfl, rfl⟩, ?_⟩; clear h2)
    rintro i ⟨hi, he⟩
    have hl2 : a.length = b.length := by omega
    repeat' (intro t ht; first | (cases t <;> first | (cases ht; done) | ((try simp only [bn_s] at ht); (try simp only [nd_s] at ht); (try (exfalso; first | contradiction | omega)))) | (refine ht ?_ ?_ <;> clear ht) | (refine ht.1 ?_ ?_ <;> clear ht) | (refine ht ?_; clear ht))
    all_goals (try generalize (Ty.dflt (.cons (.int .i64) (.cons (.int .i64) (.cons .bool (.cons (.int .u64) (.cons (.sl (.int .u8)) (.cons (.sl (.int .u8)) .nil))))))) = od at *)
    all_goals first
      | exact True.intro
      | ((try simp only [nd_s, bn_s, mm_s] at *); omega)
      | (have e := tkAll he (by omega) hl2
         refine ⟨?_, rfl⟩; rw [decide_eq_true e]; done)
      | (have hs : smO (a.getD i od) (b.getD i od) = false := by assumption
         have hne : a ≠ b := tkNe (d := od) (i := i) (smO_f hs)
         refine ⟨?_, rfl⟩; rw [decide_eq_false hne]; done)
      | (have hs : smO (a.getD i od) (b.getD i od) = true := by assumption
         exact ⟨i + 1, ⟨by omega, tkStep he (by omega) hl2 (d := od) (smO_t hs)⟩, by (try simp only [nd_s, bn_s, mm_s] at *); omega, rfl, rfl⟩)
      | trace_state
  · cases e
def lgT (l : List OV) (i : Nat) : Int := 4 + ((l.take i).map szO).sum
def longO (l : List OV) : Int := 4 + (l.map szO).sum
theorem lgT_step {l : List OV} {i : Nat} {d : OV} (h : i < l.length) : lgT l (i + 1) = lgT l i + szO (l.getD i d) := by
  unfold lgT
  rw [List.take_succ_eq_append_getElem h, List.map_append, List.sum_append, List.getD_eq_getElem?_getD, List.getElem?_eq_getElem h]
  simp only [List.map_cons, List.map_nil, List.sum_cons, List.sum_nil, Option.getD_some]; omega
theorem lgT_end {l : List OV} {i : Nat} (h : l.length ≤ i) : lgT l i = longO l := by unfold lgT longO; rw [List.take_of_length_le h]
theorem szO_le {o : OV} (h : lenO o) : 0 ≤ szO o ∧ szO o ≤ 3000000 := by
  unfold szO; exact sizeO_le (lenM h).1 (lenM h).2
theorem lgT_le {l : List OV} (h : allLen l) (i : Nat) (hi : i ≤ l.length) : 4 ≤ lgT l i ∧ lgT l i ≤ 4 + 3000000 * i := by
  induction i with
  | zero => unfold lgT; simp
  | succ i ih =>
    have := ih (by omega)
    have d : OV := (0, 0, false, 0, [], [], ())
    have hs := szO_le (h.h _ (getD_mem' (show i < l.length by omega) d))
    rw [lgT_step (d := d) (by omega)]; omega
theorem longO_le {l : List OV} (h : okM l) : 4 ≤ longO l ∧ longO l ≤ 300000000004 := by
  have := lgT_le h.a l.length (Nat.le_refl _)
  rw [lgT_end (Nat.le_refl _)] at this
  have hn := h.n
  omega
def ir_match_long : IR :=
(.seq
(.keep [0]
(.reg (oD 2 (.mov (cI 0)) ::
[])))
(.seq
(.reg (oD 3 (.mov (cI 4)) ::
[]))
(.seq
(.seq
(.reg (oM 6 0 ::
oD 7 (.len (.t 6)) ::
oD 8 (.mov (cI 0)) ::
[]))
(.block 0
(.loop
(.seq
(.keep [3, 6, 7, 8]
(.reg (oD 9 (.bin .lss (.t 8) (.t 7)) ::
[])))
(.seq
(.cond (.t 9)
.skip
(.exit 0))
(.seq
(.block 1
(.seq
(.reg (oD 10 (.indexSl 6 (.t 6) (.t 8)) ::
oD 11 (.load (some 6) (.t 10)) ::
oD 5 (.box [.int .i64 0, .int .i64 0, .kb false, .int .u64 0, .imm (.int .u8) [], .imm (.int .u8) []]) ::
oN (.store 6 (.t 5) (.t 11)) ::
[]))
(.keep [3, 5, 6, 7, 8]
(.reg (oM 12 3 ::
oD 13 (.load (some 6) (.t 5)) ::
oD 14 (.call false (.f 81) [(.t 13)]) ::
oD 15 (.bin .add (.t 12) (.t 14)) ::
oM 3 15 ::
[])))))
(.keep [3, 6, 7, 8]
(.reg (oD 16 (.bin .add (.t 8) (cI 1)) ::
oM 8 16 ::
[])))))))))
(.seq
(.keep [3]
(.reg (oM 17 3 ::
oM 2 17 ::
[])))
.ret))))
def rd_match_long : List RD := [.tmp 2 true none]
theorem ok_match_long : fnOk Tryd.prog Tryd.f54 ir_match_long rd_match_long = true := by kernel_rfl
def S_match_long : List AV → List Obj → Option (Prop × AV)
  | [.imm (.cons (.int .i64) (.cons (.int .i64) (.cons .bool (.cons (.int .u64) (.cons (.sl (.int .u8)) (.cons (.sl (.int .u8)) .nil)))))) l], [] => some ((okM l, .int .i64 (longO l)))
  | _, _ => none
theorem snd_match_long : SoundS Tryd.prog 54 (RoF S_match_long).sum := by
  refine ro_fn Tryd.func54 ok_match_long (env_cons (s := RoF S_oxm_Size) snd_oxm_Size (env_nil _)) fun args objs p v e => ?_
  unfold S_match_long at e
  split at e
  · rename_i l
    cases e
    refine ⟨rfl, fun hw ho hp => ?_⟩
    change List OV at l
    clear hw ho
    have hn := hp.n
    repeat' (intro t ht; first | (cases t <;> first | (cases ht; done) | ((try simp only [bn_s] at ht); (try simp only [nd_s] at ht))) | (refine ht ?_ ?_ <;> clear ht) | (refine ht.1 ?_ ?_ <;> clear ht) | (refine ht ?_; clear ht))
    all_goals first
      | exact True.intro
      | (intro r h1 h2; clear h1; refine h2 ⟨[3, 6, 7, 8], Nat, (fun i => i ≤ l.length), fun i => [.int .i64 (lgT l i), .imm (.cons (.int .i64) (.cons (.int .i64) (.cons .bool (.cons (.int .u64) (.cons (.sl (.int .u8)) (.cons (.sl (.int .u8)) .nil)))))) l, .int .i64 l.length, .int .i64 i], fun _ => [], fun i => l.length - i, ⟨0, Nat.zero_le _, rfl, rfl⟩, ?_⟩; clear h2)
    intro i hi
    repeat' (intro t ht; first | (cases t <;> first | (cases ht; done) | ((try simp only [bn_s] at ht); (try simp only [nd_s] at ht); (try (exfalso; first | contradiction | omega)))) | (refine ht ?_ ?_ <;> clear ht) | (refine ht.1 ?_ ?_ <;> clear ht) | (refine ht ?_; clear ht))
    all_goals (try generalize (Ty.dflt (.cons (.int .i64) (.cons (.int .i64) (.cons .bool (.cons (.int .u64) (.cons (.sl (.int .u8)) (.cons (.sl (.int .u8)) .nil))))))) = od at *)
    all_goals first
      | exact True.intro
      | ((try simp only [nd_s, bn_s, mm_s] at *); omega)
      | (rw [lgT_end (by omega)]; exact ⟨rfl, rfl⟩)
      | (have hs := hp.a.h _ (getD_mem' (show i < l.length by omega) od)
         first
           | exact lenM hs
           | (have h1 := lgT_le hp.a i (by omega)
              have h2 : 0 ≤ szO (l.getD i od) ∧ szO (l.getD i od) ≤ 3000000 := szO_le hs
              unfold szO at h2
              simp only [min_i64, max_i64, Int.toNat_natCast]; omega)
           | (refine ⟨i + 1, by omega, by dsimp only; omega, ?_, rfl⟩
              dsimp only
              rw [lgT_step (d := od) (by omega)]; rfl))
      | trace_state
  · cases e
def rgM (l : List OV) : Bool := l.all rgO && decide ((ckS [] l).2 = 0) && decide (longO l ≤ 65528)
theorem any_not {l : List OV} : (l.any fun o => !rgO o) = !l.all rgO := by
  rw [List.not_all_eq_any_not]
def ir_match_Right : IR :=
(.seq
(.keep [0]
(.reg (oD 2 (.mov cF) ::
[])))
(.seq
(.seq
(.reg (oM 5 0 ::
oD 6 (.call false (.f 50) [(.t 5), (.f 51)]) ::
[]))
(.cond (.t 6)
(.seq
(.reg (oD 2 (.mov cF) ::
[]))
.ret)
.skip))
(.seq
(.keep [0]
(.reg (oM 8 0 ::
oD 9 (.call false (.f 53) [(.t 8)]) ::
oM 7 9 ::
oD 10 (.extract (.t 7) 0) ::
oD 11 (.extract (.t 7) 1) ::
oM 3 10 ::
oM 4 11 ::
[])))
(.seq
(.keep [0, 4]
(.reg (oM 12 4 ::
oD 13 (.bin .eql (.t 12) (cI 0)) ::
oM 14 13 ::
oT 14 15 (.mov (.t 0)) ::
oT 14 16 (.call false (.f 54) [(.t 15)]) ::
oT 14 17 (.bin .leq (.t 16) (cI 65528)) ::
oD 18 (.pick (.t 14) (.t 17) cF) ::
oM 2 18 ::
[])))
.ret))))
def rd_match_Right : List RD := [.tmp 2 true none]
theorem ok_match_Right : fnOk Tryd.prog Tryd.f19 ir_match_Right rd_match_Right = true := by kernel_rfl
def S_match_Right : List AV → List Obj → Option (Prop × AV)
  | [.imm (.cons (.int .i64) (.cons (.int .i64) (.cons .bool (.cons (.int .u64) (.cons (.sl (.int .u8)) (.cons (.sl (.int .u8)) .nil)))))) l], [] => some ((okM l, .bool (rgM l)))
  | _, _ => none
theorem snd_match_Right : SoundS Tryd.prog 19 (RoF S_match_Right).sum := by
  refine ro_fn Tryd.func19 ok_match_Right (env_cons (s := RoF S_slices_ContainsFunc_api_Oxm_api_Oxm) snd_slices_ContainsFunc_api_Oxm_api_Oxm (env_cons (s := RoF S_match_Right_1) snd_match_Right_1 (env_cons (s := RoF S_need_Check) snd_need_Check (env_cons (s := RoF S_match_long) snd_match_long (env_nil _))))) fun args objs p v e => ?_
  unfold S_match_Right at e
  split at e
  · rename_i l
    cases e
    refine ⟨rfl, fun hw ho hp => ?_⟩
    change List OV at l
    clear hw ho
    have hA := hp.a
    have hN := any_not (l := l)
    repeat' (intro t ht; first | (cases t <;> first | (cases ht; done) | ((try simp only [bn_s] at ht); (try simp only [nd_s] at ht); (try (exfalso; first | contradiction | omega)))) | (refine ht ?_ ?_ <;> clear ht) | (refine ht.1 ?_ ?_ <;> clear ht) | (refine ht ?_; clear ht))
    all_goals first
      | exact True.intro
      | exact hA
      | exact hp
      | (have ha : l.all rgO = false := by rw [ht] at hN; cases h : l.all rgO <;> simp_all
         refine ⟨congrArg AV.bool ?_, rfl⟩; unfold rgM; rw [ha]; rfl)
      | (refine ⟨congrArg AV.bool ?_, rfl⟩; unfold rgM; simp_all; done)
      | trace_state
  · cases e
def pz (n : Int) : Int := (8 - n.tmod 8).tmod 8
theorem pz_le {n : Int} (h : 0 ≤ n) : pz n = (8 - n % 8) % 8 ∧ 0 ≤ pz n ∧ pz n ≤ 7 := by
  unfold pz
  rw [Int.tmod_eq_emod_of_nonneg h, Int.tmod_eq_emod_of_nonneg (by omega)]; omega
def ir_match_zeros : IR :=
(.seq
(.keep [0]
(.reg (oD 2 (.mov (cI 0)) ::
[])))
(.seq
(.keep [0]
(.reg (oM 3 0 ::
oD 4 (.bin .rem (.t 3) (cI 8)) ::
oD 5 (.bin .sub (cI 8) (.t 4)) ::
oD 6 (.bin .rem (.t 5) (cI 8)) ::
oM 2 6 ::
[])))
.ret))
def rd_match_zeros : List RD := [.tmp 2 true none]
theorem ok_match_zeros : fnOk Tryd.prog Tryd.f44 ir_match_zeros rd_match_zeros = true := by kernel_rfl
def S_match_zeros : List AV → List Obj → Option (Prop × AV)
  | [.int .i64 n], [] => some ((0 ≤ n, .int .i64 (pz n)))
  | _, _ => none
theorem snd_match_zeros : SoundS Tryd.prog 44 (RoF S_match_zeros).sum := by
  refine ro_fn Tryd.func44 ok_match_zeros (env_nil _) fun args objs p v e => ?_
  unfold S_match_zeros at e
  split at e
  · rename_i n
    cases e
    refine ⟨rfl, fun hw ho hp => ?_⟩
    clear hw ho
    have h1 := tmod_bd (a := n) (s := 8) hp (by decide)
    repeat' (intro t ht; first | (cases t <;> first | (cases ht; done) | ((try simp only [bn_s] at ht); (try simp only [nd_s] at ht); (try (exfalso; first | contradiction | omega)))) | (refine ht ?_ ?_ <;> clear ht) | (refine ht.1 ?_ ?_ <;> clear ht) | (refine ht ?_; clear ht))
    all_goals first
      | exact True.intro
      | exact ⟨rfl, rfl⟩
      | ((try simp only [nd_s, bn_s, mm_s] at *); omega)
      | trace_state
  · cases e
end Go.Eng
