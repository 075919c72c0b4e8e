/- Parts of the proof: H5, H6, K1, H7, K3. No condition. -/
import Derived.Test.YtbenhegdnaoalaaGreatDoorProg
import Derived.Test.YtbenhegdnaoalaaGreatDoorWA10
import Derived.KernelRfl
import Derived.Test.YtbenhegdnaoalaaGreatDoorWA20
import Derived.Test.YtbenhegdnaoalaaGreatDoorWA21
namespace Go.Eng
open Go.Proofs
set_option linter.unusedVariables false
set_option linter.unusedSimpArgs false
set_option maxRecDepth 100000
set_option maxHeartbeats 1000000
def rrA (a : AC) : Bool := rightA (refR a.2.2.2.1.1 a.2.2.2.1.2.1 a.2.2.2.1.2.2.1 a.2.2.2.1.2.2.2.1 a.2.2.2.1.2.2.2.2.1 a.2.2.2.1.2.2.2.2.2.1) a.1 a.2.1 a.2.2.1 a.2.2.2.1.1 a.2.2.2.1.2.1 a.2.2.2.1.2.2.1 a.2.2.2.1.2.2.2.1 a.2.2.2.1.2.2.2.2.1 a.2.2.2.1.2.2.2.2.2.1 a.2.2.2.2.1
def erA (a : AC) : List Int := encA a.1 a.2.1 a.2.2.1 (refB a.2.2.2.1.1 a.2.2.2.1.2.1 a.2.2.2.1.2.2.1 a.2.2.2.1.2.2.2.1 a.2.2.2.1.2.2.2.2.1 a.2.2.2.1.2.2.2.2.2.1) a.2.2.2.2.1
def bysA (a : AC) : Prop := 0 ≤ a.2.2.2.1.2.2.2.1 ∧ (∀ x ∈ a.2.2.2.1.2.2.2.2.1, 0 ≤ x ∧ x ≤ 255) ∧ (∀ x ∈ a.2.2.2.1.2.2.2.2.2.1, 0 ≤ x ∧ x ≤ 255) ∧ (∀ x ∈ a.2.2.2.2.1, 0 ≤ x ∧ x ≤ 255) ∧ (0 ≤ a.2.1 ∧ a.2.1 ≤ 18446744073709551615) ∧ (0 ≤ a.2.2.1 ∧ a.2.2.1 ≤ 18446744073709551615)
theorem act_wf {l : List AC} (h : Ty.wf (.sl (.cons (.int .i64) (.cons (.int .u64) (.cons (.int .u64) (.cons (.cons (.int .i64) (.cons (.int .i64) (.cons .bool (.cons (.int .u64) (.cons (.sl (.int .u8)) (.cons (.sl (.int .u8)) .nil)))))) (.cons (.sl (.int .u8)) .nil)))))) l) : ∀ o ∈ l, bysA o := fun o ho => by
  obtain ⟨h1, h2, h3, ⟨g1, g2, g3, g4, g5, g6, _⟩, h5, _⟩ := h.1 o ho
  have u8 : ∀ {v : List Int}, Ty.wf (.sl (.int .u8)) v → ∀ x ∈ v, 0 ≤ x ∧ x ≤ 255 := fun {v} hv x hx => by
    have := hv.1 x hx; unfold Ty.wf inK at this; rw [min_u8, max_u8] at this; exact this
  have u64 : ∀ {n : Int}, Ty.wf (.int .u64) n → 0 ≤ n ∧ n ≤ 18446744073709551615 := fun {n} hn => by
    unfold Ty.wf inK at hn; rw [min_u64, max_u64] at hn; exact hn
  exact ⟨(u64 g4).1, u8 g5, u8 g6, u8 h5, u64 h2, u64 h3⟩
theorem rrA_eq {a : AC} (h : bysA a) : rrA a = rgA a := (rightA_ref h.1 h.2.1 h.2.2.1).symm
theorem erA_eq {a : AC} (h : rgA a = true) : erA a = ebA a := by
  have := bodyA_ref h
  unfold erA ebA encA; rw [this]
theorem boA_snoc {l : List AC} {i : Nat} {d : AC} (h : i < l.length) : boA (l.take (i + 1)) = boA (l.take i) ++ ebA (l.getD i d) := by
  unfold boA
  rw [← take_snoc (d := d) h, List.flatMap_append]; simp
theorem boA_le {l : List AC} (h : l.all rgA = true) : (boA l).length ≤ 65528 * l.length := by
  obtain ⟨b1, _⟩ := boA_len l h
  have := smT_le (l := l) l.length (Nat.le_refl _)
  rw [smT_end (Nat.le_refl _)] at this; omega
def ir_r13_Encode : IR :=
(.seq
(.keep [0]
(.reg (oD 2 (.nilrow (.int .u8)) ::
oD 3 (.mov (cI 0)) ::
[])))
(.seq
(.reg (oD 4 (.nilrow (.int .u8)) ::
[]))
(.seq
(.seq
(.reg (oD 5 (.mov (cI 0)) ::
[]))
(.block 0
(.loop
(.seq
(.seq
(.keep [0, 4, 5]
(.reg (oM 8 5 ::
oM 9 0 ::
oD 10 (.len (.t 9)) ::
oD 11 (.bin .lss (.t 8) (.t 10)) ::
[])))
(.cond (.t 11)
.skip
(.exit 0)))
(.seq
(.block 1
(.seq
(.keep [0, 4, 5]
(.reg (oM 15 0 ::
oM 16 5 ::
oD 17 (.indexSl 10 (.t 15) (.t 16)) ::
oD 18 (.load (some 10) (.t 17)) ::
oD 19 (.call false (.f 141) [(.t 18)]) ::
oM 14 19 ::
oD 20 (.extract (.t 14) 0) ::
oD 21 (.extract (.t 14) 1) ::
oM 6 20 ::
oM 7 21 ::
[])))
(.seq
(.seq
(.keep [0, 4, 5, 6, 7]
(.reg (oM 22 7 ::
oD 23 (.bin .neq (.t 22) (cI 0)) ::
[])))
(.cond (.t 23)
(.seq
(.reg (oM 24 7 ::
oD 2 (.nilrow (.int .u8)) ::
oM 3 24 ::
[]))
.ret)
.skip))
(.reg (oM 25 4 ::
oM 26 6 ::
oD 27 (.append (.int .u8) 1 (.t 25) (.t 26)) ::
oM 4 27 ::
[])))))
(.keep [0, 4, 5]
(.reg (oM 12 5 ::
oD 13 (.bin .add (.t 12) (cI 1)) ::
oM 5 13 ::
[]))))))))
(.seq
(.seq
(.keep [0, 4]
(.reg (oM 28 0 ::
oD 29 (.len (.t 28)) ::
oD 30 (.bin .gtr (.t 29) (cI 64)) ::
oM 31 30 ::
oF 31 32 (.mov (.t 4)) ::
oF 31 33 (.len (.t 32)) ::
oF 31 34 (.bin .gtr (.t 33) (cI 65528)) ::
oD 35 (.pick (.t 31) cT (.t 34)) ::
[])))
(.cond (.t 35)
(.seq
(.keep []
(.reg (oD 2 (.nilrow (.int .u8)) ::
oD 3 (.mov (cI 10001)) ::
[])))
.ret)
.skip))
(.seq
(.keep [4]
(.reg (oM 36 4 ::
oM 2 36 ::
oD 3 (.mov (cI 0)) ::
[])))
.ret)))))
def rd_r13_Encode : List RD := [.tmp 2 true (some (.int .u8)), .tmp 3 true none]
theorem ok_r13_Encode : fnOk Tryz.prog Tryz.f81 ir_r13_Encode rd_r13_Encode = true := by kernel_rfl
def S_r13_Encode : List AV → List Obj → Option (Prop × AV)
  | [.imm (.cons (.int .i64) (.cons (.int .u64) (.cons (.int .u64) (.cons (.cons (.int .i64) (.cons (.int .i64) (.cons .bool (.cons (.int .u64) (.cons (.sl (.int .u8)) (.cons (.sl (.int .u8)) .nil)))))) (.cons (.sl (.int .u8)) .nil))))) l], [] => some ((okL l, .tup [.imm (.int .u8) (alL l), .int .i64 (alE l)]))
  | _, _ => none
theorem snd_r13_Encode : SoundS Tryz.prog 81 (RoF S_r13_Encode).sum := by
  refine ro_fn Tryz.func81 ok_r13_Encode (env_cons (s := RoF S_r12_Encode) snd_r12_Encode (env_nil _)) fun args objs p v e => ?_
  unfold S_r13_Encode at e
  split at e
  · rename_i l
    cases e
    refine ⟨rfl, fun hw ho hp => ?_⟩
    change List AC at l
    have hby := act_wf (l := l) (hw (.imm (.cons (.int .i64) (.cons (.int .u64) (.cons (.int .u64) (.cons (.cons (.int .i64) (.cons (.int .i64) (.cons .bool (.cons (.int .u64) (.cons (.sl (.int .u8)) (.cons (.sl (.int .u8)) .nil)))))) (.cons (.sl (.int .u8)) .nil))))) l) (by simp))
    clear hw ho
    have hok := hp
    have hn := hok.n
    repeat' (intro t ht; first | (cases t <;> first | (cases ht; done) | ((try simp only [bn_s] at ht); (try simp only [nd_s] at ht))) | (refine ht ?_ ?_ <;> clear ht) | (refine ht.1 ?_ ?_ <;> clear ht) | (refine ht ?_; clear ht))
    all_goals first
      | exact True.intro
      | (intro r h1 h2; clear h1; refine h2 ⟨[0, 4, 5], Nat, (fun i => i ≤ l.length ∧ (l.take i).all rgA = true), fun i => [.imm (.cons (.int .i64) (.cons (.int .u64) (.cons (.int .u64) (.cons (.cons (.int .i64) (.cons (.int .i64) (.cons .bool (.cons (.int .u64) (.cons (.sl (.int .u8)) (.cons (.sl (.int .u8)) .nil)))))) (.cons (.sl (.int .u8)) .nil))))) l, .own 0, .int .i64 i], fun i => [.row false (.int .u8) (boA (l.take i))], fun i => l.length - i, ⟨0, ⟨Nat.zero_le _, rfl⟩, rfl, rfl⟩, ?_⟩; clear h2)
      | trace_state
    rintro i ⟨hi, he⟩
    have hbo := boA_le he
    rw [take_len hi] at hbo
    repeat' (intro t ht; first | (cases t <;> first | (cases ht; done) | ((try simp only [bn_s] at ht); (try simp only [nd_s] at ht); (try (exfalso; first | contradiction | omega)))) | (refine ht ?_ ?_ <;> clear ht) | (refine ht.1 ?_ ?_ <;> clear ht) | (refine ht ?_; clear ht))
    all_goals (try generalize (Ty.dflt (.cons (.int .i64) (.cons (.int .u64) (.cons (.int .u64) (.cons (.cons (.int .i64) (.cons (.int .i64) (.cons .bool (.cons (.int .u64) (.cons (.sl (.int .u8)) (.cons (.sl (.int .u8)) .nil)))))) (.cons (.sl (.int .u8)) .nil)))))) = od at *)
    all_goals first
      | exact True.intro
      | ((try simp only [nd_s, bn_s, mm_s] at *); omega)
      | (have hlt : i < l.length := by omega
         have hq := rrA_eq (hby _ (getD_mem' hlt od))
         have hlen := hok.a _ (getD_mem' hlt od)
         first
           | exact hlen
           | (have hk : rrA (l.getD i od) = false := by
                cases hk : rrA (l.getD i od) with
                | false => rfl
                | true =>
                  have : (if rrA (l.getD i od) = true then (0 : Int) else 10001) = 0 := if_pos hk
                  first | contradiction | (exfalso; simp_all; done)
              have hno : rgL l = false := by
                cases h : rgL l with
                | false => rfl
                | true =>
                  have := List.all_eq_true.1 (rgL_parts h).1 _ (getD_mem' hlt od)
                  rw [← hq, hk] at this; cases this
              have e1 : (if rrA (l.getD i od) = true then (0 : Int) else 10001) = 10001 := by rw [hk]; rfl
              unfold alL alE; rw [hno]
              refine ⟨congrArg (fun z => AV.tup [_, AV.int .i64 z]) e1, by first | rfl | exact True.intro⟩)
           | (have hk : rrA (l.getD i od) = true := by
                cases hk : rrA (l.getD i od) with
                | true => rfl
                | false =>
                  have : (if rrA (l.getD i od) = true then (0 : Int) else 10001) = 10001 := by rw [hk]; rfl
                  exfalso; unfold rrA at this hk; simp_all; done
              have hr : rgA (l.getD i od) = true := hq.symm.trans hk
              have h8 := szA_1 hr
              have e1 : (if rrA (l.getD i od) = true then erA (l.getD i od) else []) = ebA (l.getD i od) := (if_pos hk).trans (erA_eq hr)
              have e2 : (if rightA (refR ((l.getD i od)).2.2.2.1.1 ((l.getD i od)).2.2.2.1.2.1 ((l.getD i od)).2.2.2.1.2.2.1 ((l.getD i od)).2.2.2.1.2.2.2.1 ((l.getD i od)).2.2.2.1.2.2.2.2.1 ((l.getD i od)).2.2.2.1.2.2.2.2.2.1) ((l.getD i od)).1 ((l.getD i od)).2.1 ((l.getD i od)).2.2.1 ((l.getD i od)).2.2.2.1.1 ((l.getD i od)).2.2.2.1.2.1 ((l.getD i od)).2.2.2.1.2.2.1 ((l.getD i od)).2.2.2.1.2.2.2.1 ((l.getD i od)).2.2.2.1.2.2.2.2.1 ((l.getD i od)).2.2.2.1.2.2.2.2.2.1 ((l.getD i od)).2.2.2.2.1 = true then encA (l.getD i od).1 (l.getD i od).2.1 (l.getD i od).2.2.1 (refB ((l.getD i od)).2.2.2.1.1 ((l.getD i od)).2.2.2.1.2.1 ((l.getD i od)).2.2.2.1.2.2.1 ((l.getD i od)).2.2.2.1.2.2.2.1 ((l.getD i od)).2.2.2.1.2.2.2.2.1 ((l.getD i od)).2.2.2.1.2.2.2.2.2.1) (l.getD i od).2.2.2.2.1 else []) = ebA (l.getD i od) := e1
              first
                | (simp only [cast_rfl, Int.toNat_natCast, e2]; constructor <;> omega)
                | (refine ⟨i + 1, ⟨by omega, allT_step hlt he hr⟩, by dsimp only; omega, rfl, ?_⟩
                   dsimp only
                   rw [boA_snoc (d := od) hlt]
                   simp only [cast_rfl, Int.toNat_natCast, e2]; done)))
      | (have hge : l.length ≤ i := by omega
         have ha := allT_end hge he
         rw [List.take_of_length_le hge] at *
         cases hr : rgL l with
         | true =>
           obtain ⟨_, h2, h3, _⟩ := rgL_parts hr
           unfold alL alE; rw [hr]
           first
             | (exfalso; omega)
             | exact ⟨rfl, by first | rfl | exact True.intro⟩
         | false =>
           unfold alL alE; rw [hr]
           first
             | exact ⟨rfl, by first | rfl | exact True.intro⟩
             | (exfalso; have := rgL_of ha (by omega) (by omega); rw [hr] at this; cases this))
      | trace_state
  · cases e
def ir_r13_Decode : IR :=
(.seq
(.keep [0]
(.reg (oD 2 (.nilrow (.cons (.int .i64) (.cons (.int .u64) (.cons (.int .u64) (.cons (.cons (.int .i64) (.cons (.int .i64) (.cons .bool (.cons (.int .u64) (.cons (.sl (.int .u8)) (.cons (.sl (.int .u8)) .nil)))))) (.cons (.sl (.int .u8)) .nil)))))) ::
oD 3 (.mov (cI 0)) ::
[])))
(.seq
(.reg (oM 9 0 ::
oD 10 (.len (.t 9)) ::
oM 4 10 ::
[]))
(.seq
(.reg (oD 5 (.nilrow (.cons (.int .i64) (.cons (.int .u64) (.cons (.int .u64) (.cons (.cons (.int .i64) (.cons (.int .i64) (.cons .bool (.cons (.int .u64) (.cons (.sl (.int .u8)) (.cons (.sl (.int .u8)) .nil)))))) (.cons (.sl (.int .u8)) .nil)))))) ::
[]))
(.seq
(.block 0
(.loop
(.seq
(.seq
(.keep [0, 4, 5]
(.reg (oM 11 0 ::
oD 12 (.len (.t 11)) ::
oD 13 (.bin .gtr (.t 12) (cI 0)) ::
[])))
(.cond (.t 13)
.skip
(.exit 0)))
(.block 1
(.seq
(.seq
(.reg (oM 14 5 ::
oD 15 (.len (.t 14)) ::
oD 16 (.bin .eql (.t 15) (cI 64)) ::
[]))
(.cond (.t 16)
(.seq
(.keep []
(.reg (oD 2 (.nilrow (.cons (.int .i64) (.cons (.int .u64) (.cons (.int .u64) (.cons (.cons (.int .i64) (.cons (.int .i64) (.cons .bool (.cons (.int .u64) (.cons (.sl (.int .u8)) (.cons (.sl (.int .u8)) .nil)))))) (.cons (.sl (.int .u8)) .nil)))))) ::
oD 3 (.mov (cI 520)) ::
[])))
.ret)
.skip))
(.seq
(.keep [0, 4, 5]
(.reg (oM 18 0 ::
oD 19 (.call false (.f 134) [(.t 18)]) ::
oM 17 19 ::
oD 20 (.extract (.t 17) 0) ::
oD 21 (.extract (.t 17) 1) ::
oD 22 (.extract (.t 17) 2) ::
oD 6 (.box [.int .i64 0, .int .u64 0, .int .u64 0, .int .i64 0, .int .i64 0, .kb false, .int .u64 0, .imm (.int .u8) [], .imm (.int .u8) [], .imm (.int .u8) []]) ::
oN (.store 10 (.t 6) (.t 20)) ::
oM 7 21 ::
oM 8 22 ::
[])))
(.seq
(.seq
(.keep [0, 4, 5, 6, 7, 8]
(.reg (oM 23 8 ::
oD 24 (.bin .neq (.t 23) (cI 0)) ::
[])))
(.cond (.t 24)
(.seq
(.reg (oM 25 8 ::
oD 2 (.nilrow (.cons (.int .i64) (.cons (.int .u64) (.cons (.int .u64) (.cons (.cons (.int .i64) (.cons (.int .i64) (.cons .bool (.cons (.int .u64) (.cons (.sl (.int .u8)) (.cons (.sl (.int .u8)) .nil)))))) (.cons (.sl (.int .u8)) .nil)))))) ::
oM 3 25 ::
[]))
.ret)
.skip))
(.seq
(.keep [0, 4, 5, 6, 7]
(.reg (oM 26 5 ::
oD 27 (.load (some 10) (.t 6)) ::
oD 28 (.sliceAll (.cons (.int .i64) (.cons (.int .u64) (.cons (.int .u64) (.cons (.cons (.int .i64) (.cons (.int .i64) (.cons .bool (.cons (.int .u64) (.cons (.sl (.int .u8)) (.cons (.sl (.int .u8)) .nil)))))) (.cons (.sl (.int .u8)) .nil))))) 1 [(0, 10, (.t 27))]) ::
oD 29 (.append (.cons (.int .i64) (.cons (.int .u64) (.cons (.int .u64) (.cons (.cons (.int .i64) (.cons (.int .i64) (.cons .bool (.cons (.int .u64) (.cons (.sl (.int .u8)) (.cons (.sl (.int .u8)) .nil)))))) (.cons (.sl (.int .u8)) .nil))))) 128 (.t 26) (.t 28)) ::
oM 5 29 ::
[])))
(.reg (oM 30 0 ::
oM 31 7 ::
oD 32 (.slice 1 (.t 30) (some (.t 31)) none none) ::
oM 0 32 ::
[]))))))))))
(.seq
(.seq
(.keep [4, 5]
(.reg (oM 33 4 ::
oD 34 (.bin .gtr (.t 33) (cI 65528)) ::
[])))
(.cond (.t 34)
(.seq
(.reg (oD 2 (.nilrow (.cons (.int .i64) (.cons (.int .u64) (.cons (.int .u64) (.cons (.cons (.int .i64) (.cons (.int .i64) (.cons .bool (.cons (.int .u64) (.cons (.sl (.int .u8)) (.cons (.sl (.int .u8)) .nil)))))) (.cons (.sl (.int .u8)) .nil)))))) ::
oD 3 (.mov (cI 514)) ::
[]))
.ret)
.skip))
(.seq
(.reg (oM 35 5 ::
oM 2 35 ::
oD 3 (.mov (cI 0)) ::
[]))
.ret))))))
def rd_r13_Decode : List RD := [.tmp 2 true (some (.cons (.int .i64) (.cons (.int .u64) (.cons (.int .u64) (.cons (.cons (.int .i64) (.cons (.int .i64) (.cons .bool (.cons (.int .u64) (.cons (.sl (.int .u8)) (.cons (.sl (.int .u8)) .nil)))))) (.cons (.sl (.int .u8)) .nil)))))), .tmp 3 true none]
theorem ok_r13_Decode : fnOk Tryz.prog Tryz.f69 ir_r13_Decode rd_r13_Decode = true := by kernel_rfl
def S_r13_Decode : List AV → List Obj → Option (Prop × AV)
  | [.imm (.int .u8) b], [] => some ((b.length ≤ 100000, .tup [.imm (.cons (.int .i64) (.cons (.int .u64) (.cons (.int .u64) (.cons (.cons (.int .i64) (.cons (.int .i64) (.cons .bool (.cons (.int .u64) (.cons (.sl (.int .u8)) (.cons (.sl (.int .u8)) .nil)))))) (.cons (.sl (.int .u8)) .nil))))) (adL b), .int .i64 (adE b)]))
  | _, _ => none
theorem snd_r13_Decode : SoundS Tryz.prog 69 (RoF S_r13_Decode).sum := by
  refine ro_fn Tryz.func69 ok_r13_Decode (env_cons (s := RoF S_r12_Decode) snd_r12_Decode (env_nil _)) fun args objs p v e => ?_
  unfold S_r13_Decode at e
  split at e
  · rename_i b
    cases e
    refine ⟨rfl, fun hw ho hp => ?_⟩
    change List Int at b
    clear hw ho
    repeat' (intro t ht; first | (cases t <;> first | (cases ht; done) | ((try simp only [bn_s] at ht); (try simp only [nd_s] at ht))) | (refine ht ?_ ?_ <;> clear ht) | (refine ht.1 ?_ ?_ <;> clear ht) | (refine ht ?_; clear ht))
    all_goals first
      | exact True.intro
      | (intro r h1 h2; clear h1; refine h2 ⟨[0, 4, 5], List AC × List Int, (fun a => a.1.length ≤ 64 ∧ a.2.length ≤ b.length ∧ alG [] b = alG a.1 a.2), fun a => [.imm (.int .u8) a.2, .int .i64 b.length, .own 0], fun a => [.row false (.cons (.int .i64) (.cons (.int .u64) (.cons (.int .u64) (.cons (.cons (.int .i64) (.cons (.int .i64) (.cons .bool (.cons (.int .u64) (.cons (.sl (.int .u8)) (.cons (.sl (.int .u8)) .nil)))))) (.cons (.sl (.int .u8)) .nil))))) a.1], fun a => a.2.length, ⟨([], b), ⟨Nat.zero_le _, Nat.le_refl _, rfl⟩, rfl, rfl⟩, ?_⟩; clear h2)
      | trace_state
    rintro ⟨acc, y⟩ ⟨j1, j2, j3⟩
    dsimp only at j1 j2 j3
    repeat' (intro t ht; first | (cases t <;> first | (cases ht; done) | ((try simp only [bn_s] at ht); (try simp only [nd_s] at ht); (try (exfalso; first | contradiction | omega)))) | (refine ht ?_ ?_ <;> clear ht) | (refine ht.1 ?_ ?_ <;> clear ht) | (refine ht ?_; clear ht))
    all_goals (try dsimp only at *)
    all_goals first
      | exact True.intro
      | ((try simp only [nd_s, bn_s, mm_s] at *); omega)
      | omega
      | exact ⟨rfl, rfl⟩
      | (have hg := alG_nil (acc := acc) (y := y) (by omega)
         rw [← j3] at hg
         first
           | (obtain ⟨d1, d2⟩ := (ad_end hg).1 (by omega)
              rw [d1, d2]; exact ⟨rfl, rfl⟩)
           | (obtain ⟨d1, d2⟩ := (ad_end hg).2 (by omega)
              rw [d1, d2]; exact ⟨rfl, rfl⟩))
      | (simp only [cast_rfl, List.length_cons, List.length_nil]; constructor <;> omega)
      | (have hm := alG_many (acc := acc) (y := y) (by omega) (by omega)
         rw [← j3] at hm
         obtain ⟨d1, d2⟩ := ad_bad (b := b) (e := 520) (by rw [hm]) (by decide)
         rw [d1, d2]; exact ⟨rfl, rfl⟩)
      | (have h0 : acE y = 0 := by assumption
         obtain ⟨g1, g2, _⟩ := acN_ge h0
         have e1 : ∀ x, acI y x = x := fun x => if_pos h0
         first
           | (rw [e1]; constructor <;> omega)
           | (have hm := alG_ok (acc := acc) (by omega) (by omega) h0 (by omega)
              refine ⟨(acc ++ [vA y], y.drop (tN y).toNat), ⟨?_, ?_, j3.trans hm⟩, ?_, ?_, ?_⟩
              · simp only [List.length_append, List.length_cons, List.length_nil]; omega
              · dsimp only; rw [List.length_drop]; omega
              · dsimp only; rw [List.length_drop]; omega
              · dsimp only; rw [e1]; rfl
              · dsimp only; rw [e1]; rfl))
      | (have h0 : ¬ acE y = 0 := by assumption
         have hm := alG_bad (acc := acc) (y := y) (by omega) (by omega) h0
         rw [← j3] at hm
         obtain ⟨d1, d2⟩ := ad_bad (b := b) (e := acE y) (by rw [hm]) h0
         rw [d1, d2]; exact ⟨rfl, rfl⟩)
      | trace_state
  · cases e
end Go.Eng
namespace Go.Eng
open Go.Proofs
set_option linter.unusedVariables false
set_option linter.unusedSimpArgs false
set_option maxRecDepth 100000
set_option maxHeartbeats 1000000
def atL (n : Int) (b : List Int) (p sh e : Int) : List AC := if takeE n b p sh e = 0 then adL (takeL n b p sh e) else []
def atE (n : Int) (b : List Int) (p sh e : Int) : Int := if takeE n b p sh e = 0 then adE (takeL n b p sh e) else takeE n b p sh e
theorem takeL_lim {n : Int} {b : List Int} {p sh e : Int} : (takeL n b p sh e).length ≤ b.length := by
  unfold takeL; split
  · rw [List.length_drop, List.length_take]; omega
  · simp
def ir_acts_Take : IR :=
(.seq
(.keep [0, 1]
(.reg (oD 4 (.mov (.c (.imm (.cons (.int .i64) (.cons (.int .u64) (.cons (.int .u64) (.cons (.cons (.int .i64) (.cons (.int .i64) (.cons .bool (.cons (.int .u64) (.cons (.sl (.int .u8)) (.cons (.sl (.int .u8)) .nil)))))) (.cons (.sl (.int .u8)) .nil))))) []))) ::
[])))
(.seq
(.reg (oM 8 0 ::
oM 9 1 ::
oD 10 (.call false (.f 29) [(.t 8), (.t 9)]) ::
oM 5 10 ::
[]))
(.seq
(.seq
(.reg (oM 11 0 ::
oD 12 (.call false (.f 31) [(.t 11)]) ::
oD 13 (.bin .neq (.t 12) (cI 0)) ::
[]))
(.cond (.t 13)
(.seq
(.keep []
(.reg (oD 4 (.mov (.c (.imm (.cons (.int .i64) (.cons (.int .u64) (.cons (.int .u64) (.cons (.cons (.int .i64) (.cons (.int .i64) (.cons .bool (.cons (.int .u64) (.cons (.sl (.int .u8)) (.cons (.sl (.int .u8)) .nil)))))) (.cons (.sl (.int .u8)) .nil))))) []))) ::
[])))
.ret)
.skip))
(.seq
(.keep [0, 5]
(.reg (oM 15 5 ::
oD 16 (.call false (.f 200) [(.t 15)]) ::
oM 14 16 ::
oD 17 (.extract (.t 14) 0) ::
oD 18 (.extract (.t 14) 1) ::
oM 6 17 ::
oM 7 18 ::
[])))
(.seq
(.keep [0, 6, 7]
(.reg (oM 19 0 ::
oM 20 7 ::
oD 21 (.call false (.f 74) [(.t 19), (.t 20)]) ::
[])))
(.seq
(.reg (oM 22 6 ::
oM 4 22 ::
[]))
.ret))))))
def rd_acts_Take : List RD := [.tmp 4 true (some (.cons (.int .i64) (.cons (.int .u64) (.cons (.int .u64) (.cons (.cons (.int .i64) (.cons (.int .i64) (.cons .bool (.cons (.int .u64) (.cons (.sl (.int .u8)) (.cons (.sl (.int .u8)) .nil)))))) (.cons (.sl (.int .u8)) .nil))))))]
theorem ok_acts_Take : fnOk Tryz.prog Tryz.f136 ir_acts_Take rd_acts_Take = true := by kernel_rfl
def S_acts_Take : List AV → List Obj → Option (Prop × AV × List Obj)
  | [.ptr 0 0, .int .i64 n], [.box [.imm (.int .u8) b, .int .i64 p, .int .i64 sh, .int .i64 od, .int .i64 e, .bool true]] => some ((0 ≤ p ∧ p ≤ b.length ∧ b.length ≤ 100000000 ∧ sh ≠ 0, .imm (.cons (.int .i64) (.cons (.int .u64) (.cons (.int .u64) (.cons (.cons (.int .i64) (.cons (.int .i64) (.cons .bool (.cons (.int .u64) (.cons (.sl (.int .u8)) (.cons (.sl (.int .u8)) .nil)))))) (.cons (.sl (.int .u8)) .nil))))) (atL n b p sh e), [.box [.imm (.int .u8) b, .int .i64 (takeP n b p sh e), .int .i64 sh, .int .i64 od, .int .i64 (atE n b p sh e), .bool true]]))
  | _, _ => none
theorem snd_acts_Take : SoundS Tryz.prog 136 (RwF S_acts_Take).sum := by
  refine rw_fn Tryz.func136 ok_acts_Take (env_cons (s := RwF S_cursor_Cursor_Bytes) snd_cursor_Cursor_Bytes (env_cons (s := RoF S_cursor_Cursor_Err) snd_cursor_Cursor_Err (env_cons (s := RoF S_acts_Decode) snd_acts_Decode (env_cons (s := RwF S_cursor_Cursor_Fail) snd_cursor_Cursor_Fail (env_nil _))))) fun args objs p v o e => ?_
  unfold S_acts_Take at e
  split at e
  · rename_i n b p sh od e
    cases e
    refine ⟨rfl, fun hw ho hp => ?_⟩
    change List Int at b
    clear hw ho
    obtain ⟨h1, h2, h3, h4⟩ := hp
    have hl := takeL_lim (n := n) (b := b) (p := p) (sh := sh) (e := e)
    by_cases he : takeE n b p sh e = 0
    · have f0 : ∀ x, failE 0 x = x := fun x => if_pos rfl
      have k1 : atL n b p sh e = adL (takeL n b p sh e) := if_pos he
      have k2 : atE n b p sh e = adE (takeL n b p sh e) := if_pos he
      rw [k1, k2]
      clear k1 k2
      repeat' (intro t ht; first | (cases t <;> first | (cases ht; done) | ((try simp only [bn_s] at ht); (try simp only [nd_s] at ht))) | (refine ht ?_ ?_ <;> clear ht) | (refine ht.1 ?_ ?_ <;> clear ht) | (refine ht ?_; clear ht))
      all_goals (try simp only [he, f0] at *)
      all_goals first
        | exact True.intro
        | contradiction
        | exact ⟨h1, h2, by omega, h4⟩
        | omega
        | exact ⟨rfl, by first | rfl | exact True.intro⟩
        | exact ⟨True.intro, True.intro⟩
        | (exfalso; simp_all; done)
        | trace_state
    · repeat' (intro t ht; first | (cases t <;> first | (cases ht; done) | ((try simp only [bn_s] at ht); (try simp only [nd_s] at ht); (try (exfalso; first | contradiction | omega)))) | (refine ht ?_ ?_ <;> clear ht) | (refine ht.1 ?_ ?_ <;> clear ht) | (refine ht ?_; clear ht))
      all_goals first
        | exact True.intro
        | exact ⟨h1, h2, by omega, h4⟩
        | (unfold atL atE; rw [if_neg he, if_neg he]; exact ⟨rfl, by first | rfl | exact True.intro⟩)
        | (exfalso; simp_all; done)
        | trace_state
  · cases e
end Go.Eng
namespace Go.Eng
open Go.Proofs
set_option linter.unusedVariables false
set_option linter.unusedSimpArgs false
set_option maxRecDepth 100000
set_option maxHeartbeats 1000000
abbrev BK := Int × Int × Int × List AC × Unit
instance : DecidableEq (List AC × Unit) := inferInstance
instance : DecidableEq BK := inferInstance
def w5 : List Int := [2, 2, 4, 4, -4]
def bkN (x : BK) : List Int := [16 + szL x.2.2.2.1, x.1, x.2.1, x.2.2.1]
structure okB (l : List BK) : Prop where
  a : ∀ o ∈ l, okL o.2.2.2.1
  n : l.length ≤ 1000000
def bpB (x : BK) (l : List Int) (room e : Int) : List Int := if rgL x.2.2.2.1 = true then apB x.2.2.2.1 (rowB w5 (bkN x) l room e) room (rowE w5 (bkN x) l room e) else l
def bpE (x : BK) (l : List Int) (room e : Int) : Int := if rgL x.2.2.2.1 = true then apE x.2.2.2.1 (rowB w5 (bkN x) l room e) room (rowE w5 (bkN x) l room e) else failE e 10001
theorem wrS_lim {α : Type} {x : α → List Int} {f : α → Int} {room : Int} (hr : room ≤ 1000000) : ∀ (r : List α) (l : List Int) (e : Int), l.length ≤ 1000000 → (wrS x f room r l e).1.length ≤ 1000000
  | [], l, e, h => h
  | o :: r, l, e, h => wrS_lim hr r _ _ (bufB_lim h hr)
theorem bpB_lim {x : BK} {l : List Int} {room e : Int} (h : l.length ≤ 1000000) (hr : room ≤ 1000000) : (bpB x l room e).length ≤ 1000000 := by
  unfold bpB apB; split
  · exact wrS_lim hr _ _ _ (rowB_lim h hr)
  · exact h
def ir_bucket_put : IR :=
(.seq
(.keep [0, 1]
(.reg (oD 3 (.boxv (.t 1)) ::
[])))
(.seq
(.seq
(.reg (oD 5 (.fieldAddr 3 (.t 3)) ::
oL 6 5 ::
oD 7 (.call false (.f 138) [(.t 6)]) ::
oD 8 (.un .not (.t 7)) ::
[]))
(.cond (.t 8)
(.seq
(.reg (oM 9 0 ::
oD 10 (.call false (.f 83) [(.t 9), (cI 10001)]) ::
[]))
.ret)
.skip))
(.seq
(.keep [0, 3]
(.reg (oD 4 (.mov (.f 139)) ::
[])))
(.seq
(.keep [0, 3, 4]
(.regD ((oM 11 0, []) ::
(oD 12 (.sliceAll (.int .i64) 5 [(0, 1, (cI 2)), (1, 1, (cI 2)), (2, 1, (cI 4)), (3, 1, (cI 4)), (4, 1, (cI (-4)))]), [0]) ::
(oM 13 4, [0, 0]) ::
(oD 14 (.fieldAddr 3 (.t 3)), [0, 0, 0]) ::
(oL 15 14, [1, 0, 0]) ::
(oD 16 (.call false (.t 13) [(.t 15)]), [3, 0]) ::
(oD 17 (.bin .add (cI 16) (.t 16)), [4, 0]) ::
(oD 18 (.conv .u64 (.t 17)), [5, 0]) ::
(oD 19 (.fieldAddr 0 (.t 3)), [0, 0, 0, 0, 0, 0, 0, 0]) ::
(oL 20 19, [1, 0, 0, 0, 0, 0, 0, 0]) ::
(oD 21 (.fieldAddr 1 (.t 3)), [0, 0, 0, 0, 0, 0, 0, 0, 0, 0]) ::
(oL 22 21, [1, 0, 0, 0, 0, 0, 0, 0, 0, 0]) ::
(oD 23 (.fieldAddr 2 (.t 3)), [0, 0, 0, 0, 0, 0, 0, 0, 0, 0, 0, 0]) ::
(oL 24 23, [1, 0, 0, 0, 0, 0, 0, 0, 0, 0, 0, 0]) ::
(oD 25 (.sliceAll (.int .u64) 4 [(0, 1, (.t 18)), (1, 1, (.t 20)), (2, 1, (.t 22)), (3, 1, (.t 24))]), [12, 0]) ::
(oD 26 (.call false (.f 112) [(.t 11), (.t 12), (.t 25)]), []) ::
[])))
(.keep [0, 3]
(.reg (oM 27 0 ::
oD 28 (.fieldAddr 3 (.t 3)) ::
oL 29 28 ::
oD 30 (.call false (.f 140) [(.t 27), (.t 29)]) ::
[])))))))
def rd_bucket_put : List RD := []
theorem ok_bucket_put : fnOk Tryz.prog Tryz.f80 ir_bucket_put rd_bucket_put = true := by kernel_rfl
def W_bucket_put : List AV → List Obj → Option (Prop × Res)
  | [.ptr 0 0, .agg [.int .u64 w, .int .u64 q, .int .u64 g, .imm (.cons (.int .i64) (.cons (.int .u64) (.cons (.int .u64) (.cons (.cons (.int .i64) (.cons (.int .i64) (.cons .bool (.cons (.int .u64) (.cons (.sl (.int .u8)) (.cons (.sl (.int .u8)) .nil)))))) (.cons (.sl (.int .u8)) .nil))))) a]], [.box [.own 1, .int .i64 room, .mapv 2, .int .i64 e], .row false (.int .u8) l, .map sq (.int .i64) (.int .i64) h] => some (okL a ∧ 0 ≤ room ∧ room ≤ 1000000 ∧ l.length ≤ 1000000, .br (rgL a) (.one (.tup []) [.box [.own 3, .int .i64 room, .mapv 2, .int .i64 (bpE (w, q, g, a, ()) l room e)], .dead, .map sq (.int .i64) (.int .i64) h, .row false (.int .u8) (bpB (w, q, g, a, ()) l room e)]) (.one (.tup []) [.box [.own 1, .int .i64 room, .mapv 2, .int .i64 (failE e 10001)], .row false (.int .u8) l, .map sq (.int .i64) (.int .i64) h]))
  | _, _ => none
def S_bucket_put : List AV → List Obj → Option (Prop × AV × List Obj)
  | [.ptr 0 0, .agg [.int .u64 w, .int .u64 q, .int .u64 g, .imm (.cons (.int .i64) (.cons (.int .u64) (.cons (.int .u64) (.cons (.cons (.int .i64) (.cons (.int .i64) (.cons .bool (.cons (.int .u64) (.cons (.sl (.int .u8)) (.cons (.sl (.int .u8)) .nil)))))) (.cons (.sl (.int .u8)) .nil))))) a]], [.box [.own 1, .int .i64 room, .mapv 2, .int .i64 e], .row false (.int .u8) l, .map sq (.int .i64) (.int .i64) h] => some (okL a ∧ 0 ≤ room ∧ room ≤ 1000000 ∧ l.length ≤ 1000000, .tup [], [.box [.own 3, .int .i64 room, .mapv 2, .int .i64 (bpE (w, q, g, a, ()) l room e)], .dead, .map sq (.int .i64) (.int .i64) h, .row false (.int .u8) (bpB (w, q, g, a, ()) l room e)])
  | _, _ => none
theorem wnd_bucket_put : SoundS Tryz.prog 80 (RcF W_bucket_put).sum := by
  refine rc_fn Tryz.func80 ok_bucket_put (env_cons (s := RoF S_acts_Right) snd_acts_Right (env_cons (s := RwF S_buffer_Buffer_Fail) snd_buffer_Buffer_Fail (env_cons (s := RoF S_acts_Size) snd_acts_Size (env_cons (s := RwF S_buffer_Buffer_Row) snd_buffer_Buffer_Row (env_cons (s := RwF S_acts_Put) snd_acts_Put (env_nil _)))))) fun args objs p v e => ?_
  unfold W_bucket_put at e
  split at e
  · rename_i w q g a room e l sq h
    cases e
    change List Int at l
    change List AC at a
    refine ⟨rfl, fun hw' ho hp => ?_⟩
    clear hw' ho
    obtain ⟨hok, hp1, hp2, hp3⟩ := hp
    have hok' := hok
    have hl1 : (rowB [2, 2, 4, 4, -4] [16 + szL a, w, q, g] l room e).length ≤ 1000000 := rowB_lim hp3 hp2
    have hsz : 0 ≤ szL a ∧ szL a ≤ 65528 := by
      cases hr : rgL a with
      | true => have := rgL_parts hr; omega
      | false => rw [szL_no hr]; decide
    cases hr : rgL a with
    | false =>
      repeat' (intro t ht; first | (cases t <;> first | (cases ht; done) | ((try simp only [bn_s] at ht); (try simp only [nd_s] at ht); (try (exfalso; first | contradiction | omega)))) | (refine ht ?_ ?_ <;> clear ht) | (refine ht.1 ?_ ?_ <;> clear ht) | (refine ht ?_; clear ht))
      all_goals first
        | exact True.intro
        | exact hok'
        | (exfalso; simp_all; done)
        | exact ⟨rfl, rfl⟩
        | trace_state
    | true =>
      have q1 : bpE (w, q, g, a, ()) l room e = apE a (rowB [2, 2, 4, 4, -4] [16 + szL a, w, q, g] l room e) room (rowE [2, 2, 4, 4, -4] [16 + szL a, w, q, g] l room e) := if_pos hr
      have q2 : bpB (w, q, g, a, ()) l room e = apB a (rowB [2, 2, 4, 4, -4] [16 + szL a, w, q, g] l room e) room (rowE [2, 2, 4, 4, -4] [16 + szL a, w, q, g] l room e) := if_pos hr
      rw [q1, q2]
      repeat' (intro t ht; first | (cases t <;> first | (cases ht; done) | ((try simp only [bn_s] at ht); (try simp only [nd_s] at ht); (try (exfalso; first | contradiction | omega)))) | (refine ht ?_ ?_ <;> clear ht) | (refine ht.1 ?_ ?_ <;> clear ht) | (refine ht ?_; clear ht))
      all_goals first
        | exact True.intro
        | exact hok'
        | (exfalso; simp_all; done)
        | ((try simp only [nd_s, bn_s, mm_s] at *); omega)
        | exact ⟨hp1, hp2, hp3⟩
        | exact ⟨hok', hp1, hp2, hl1⟩
        | exact ⟨rfl, rfl⟩
        | trace_state
  · cases e
theorem snd_bucket_put : SoundS Tryz.prog 80 (RwF S_bucket_put).sum := by
  refine rc_move wnd_bucket_put fun args objs p v o e => ?_
  unfold S_bucket_put at e
  split at e
  · rename_i w q g a room e l sq h
    cases e
    cases hb : rgL a with
    | true => exact ⟨_, _, rfl, pick_t hb, .inl rfl⟩
    | false =>
      refine ⟨_, _, rfl, pick_f hb, .inr ⟨0, 1, [], [.int .i64 room, .mapv 2, .int .i64 (failE e 10001)], .int .u8, l, rfl, rfl, ?_⟩⟩
      unfold bpE bpB; rw [if_neg (show ¬ rgL (w, q, g, a, ()).2.2.2.1 = true by rw [show (w, q, g, a, ()).2.2.2.1 = a from rfl, hb]; decide), if_neg (show ¬ rgL (w, q, g, a, ()).2.2.2.1 = true by rw [show (w, q, g, a, ()).2.2.2.1 = a from rfl, hb]; decide)]; rfl
  · cases e
def bkS : List BK → List Int → Int → List Int × Int
  | [], l, e => (l, e)
  | x :: r, l, e => bkS r (bpB x l 65528 e) (bpE x l 65528 e)
theorem bkS_step {l : List BK} {i : Nat} {d : BK} {b : List Int} {e : Int} (h : i < l.length) : bkS (l.drop i) b e = bkS (l.drop (i + 1)) (bpB (l.getD i d) b 65528 e) (bpE (l.getD i d) b 65528 e) := by
  rw [drop_step h d]; rfl
def bkL (l : List BK) : List Int := if (bkS l [] 0).2 = 0 then (bkS l [] 0).1 else []
def bkE (l : List BK) : Int := if (bkS l [] 0).2 = 0 then 0 else 10001
theorem bkL_lim (l : List BK) : (bkL l).length ≤ 1000000 := by
  have : ∀ (l : List BK) (b : List Int) (e : Int), b.length ≤ 1000000 → (bkS l b e).1.length ≤ 1000000 := by
    intro l
    induction l with
    | nil => intro b e h; exact h
    | cons p r ih => intro b e h; exact ih _ _ (bpB_lim h (by decide))
  unfold bkL; split
  · exact this l _ _ (by simp)
  · simp
def bbF (x : BK) : Option (List Int) := if rgL x.2.2.2.1 = true ∧ putK w5 (bkN x) = true then some (putB w5 (bkN x) ++ boA x.2.2.2.1) else none
theorem failE_ne2 {e x : Int} (h : e ≠ 0) : failE e x ≠ 0 := by unfold failE; rw [if_neg h]; exact h
theorem bufE_ne {x l : List Int} {room e : Int} (h : e ≠ 0) : bufE x l room e ≠ 0 := by unfold bufE; rw [if_neg h]; exact h
theorem rowE_ne {w xs l : List Int} {room e : Int} (h : e ≠ 0) : rowE w xs l room e ≠ 0 := by
  unfold rowE; split
  · exact bufE_ne h
  · exact failE_ne2 h
theorem wrS_ne {α : Type} {x : α → List Int} {f : α → Int} {room : Int} : ∀ (r : List α) (l : List Int) (e : Int), e ≠ 0 → (wrS x f room r l e).2 ≠ 0
  | [], l, e, h => h
  | o :: r, l, e, h => wrS_ne r _ _ (bufE_ne (failE_ne2 h))
theorem apE_ne {x : List AC} {l : List Int} {room e : Int} (h : e ≠ 0) : apE x l room e ≠ 0 := by
  unfold apE; split
  · exact wrS_ne _ _ _ h
  · exact failE_ne2 h
theorem bpE_ne {x : BK} {l : List Int} {room e : Int} (h : e ≠ 0) : bpE x l room e ≠ 0 := by
  unfold bpE; split
  · exact apE_ne (rowE_ne h)
  · exact failE_ne2 h
theorem buf_full {x l : List Int} {room : Int} (h : ¬ (x.length : Int) ≤ room - l.length) : bufE x l room 0 ≠ 0 := by
  unfold bufE; rw [if_pos rfl, if_neg h]; decide
theorem wrA_full {room : Int} : ∀ (r : List AC) (l : List Int), r.all rgA = true → (l.length : Int) ≤ room → ¬ ((l.length : Int) + (boA r).length ≤ room) → (wrS exA eeA room r l 0).2 ≠ 0
  | [], l, _, h0, h1 => by exfalso; apply h1; show (l.length : Int) + 0 ≤ room; omega
  | o :: r, l, h, h0, h1 => by
    rw [List.all_cons, Bool.and_eq_true] at h
    obtain ⟨h2, h3⟩ := ex_of h.1
    rw [boA_cons, List.length_append] at h1
    have f0 : failE 0 0 = 0 := rfl
    unfold wrS
    rw [h2, h3, f0]
    by_cases hf : ((ebA o).length : Int) ≤ room - l.length
    · obtain ⟨b1, b2⟩ := buf_ok hf
      rw [b1, b2]
      exact wrA_full r _ h.2 (by rw [List.length_append]; omega) (by rw [List.length_append]; omega)
    · exact wrS_ne _ _ _ (buf_full hf)
theorem bp_ok {x : BK} {y l : List Int} (h : bbF x = some y) (hl : l.length + y.length ≤ 65528) : bpB x l 65528 0 = l ++ y ∧ bpE x l 65528 0 = 0 := by
  unfold bbF at h
  split at h
  · rename_i hk
    cases h
    rw [List.length_append] at hl
    obtain ⟨r1, r2⟩ := row_ok (l := l) (room := 65528) hk.2 (by omega)
    obtain ⟨a1, a2⟩ := ap_ok (x := x.2.2.2.1) (l := l ++ putB w5 (bkN x)) (room := 65528) hk.1 (by rw [List.length_append]; omega)
    unfold bpB bpE
    rw [if_pos hk.1, if_pos hk.1, r1, r2, a1, a2, List.append_assoc]; exact ⟨rfl, rfl⟩
  · cases h
theorem bp_no {x : BK} {l : List Int} (h : bbF x = none) : bpE x l 65528 0 ≠ 0 := by
  unfold bbF at h
  split at h
  · cases h
  · rename_i hk
    unfold bpE
    by_cases h1 : rgL x.2.2.2.1 = true
    · rw [if_pos h1]
      have h2 : putK w5 (bkN x) = false := by
        cases hp : putK w5 (bkN x) with
        | false => rfl
        | true => exact absurd ⟨h1, hp⟩ hk
      have : rowE w5 (bkN x) l 65528 0 = 10001 := by unfold rowE; rw [h2]; rfl
      rw [this]; exact apE_ne (by decide)
    · rw [if_neg h1]; decide
theorem bp_full {x : BK} {y l : List Int} (h : bbF x = some y) (h0 : l.length ≤ 65528) (hl : ¬ l.length + y.length ≤ 65528) : bpE x l 65528 0 ≠ 0 := by
  unfold bbF at h
  split at h
  · rename_i hk
    cases h
    rw [List.length_append] at hl
    unfold bpE
    rw [if_pos hk.1]
    by_cases hf : ((putB w5 (bkN x)).length : Int) ≤ 65528 - l.length
    · obtain ⟨r1, r2⟩ := row_ok (l := l) (room := 65528) hk.2 hf
      rw [r1, r2]
      unfold apE
      rw [if_pos hk.1]
      exact wrA_full _ _ (rgL_parts hk.1).1 (by rw [List.length_append]; omega) (by rw [List.length_append]; omega)
    · have : rowE w5 (bkN x) l 65528 0 ≠ 0 := by
        unfold rowE; rw [if_pos hk.2]; exact buf_full hf
      exact apE_ne this
  · cases h
theorem bkS_ne : ∀ (r : List BK) (l : List Int) (e : Int), e ≠ 0 → (bkS r l e).2 ≠ 0
  | [], l, e, h => h
  | x :: r, l, e, h => bkS_ne r _ _ (bpE_ne h)
def bbA : List BK → List Int → Option (List Int)
  | [], o => some o
  | x :: r, o => match bbF x with
    | some y => bbA r (o ++ y)
    | none => none
theorem bbA_some {l : List BK} {i : Nat} {d : BK} {o x : List Int} (h : i < l.length) (hx : bbF (l.getD i d) = some x) : bbA (l.drop i) o = bbA (l.drop (i + 1)) (o ++ x) := by
  rw [drop_step h d]; show (match bbF (l.getD i d) with | some x => _ | none => none) = _; rw [hx]
theorem bbA_none {l : List BK} {i : Nat} {d : BK} {o : List Int} (h : i < l.length) (hx : bbF (l.getD i d) = none) : bbA (l.drop i) o = none := by
  rw [drop_step h d]; show (match bbF (l.getD i d) with | some x => _ | none => none) = _; rw [hx]
theorem bbA_pre : ∀ (l : List BK) (o r : List Int), bbA l o = some r → ∃ t, r = o ++ t
  | [], o, r, h => by cases h; exact ⟨[], by rw [List.append_nil]⟩
  | x :: l, o, r, h => by
    unfold bbA at h
    split at h
    · rename_i y hy
      obtain ⟨t, ht⟩ := bbA_pre l _ _ h
      exact ⟨y ++ t, by rw [ht, List.append_assoc]⟩
    · cases h
theorem bkS_law : ∀ (l : List BK) (o : List Int), o.length ≤ 65528 → (match bbA l o with | some r => if r.length ≤ 65528 then bkS l o 0 = (r, 0) else (bkS l o 0).2 ≠ 0 | none => (bkS l o 0).2 ≠ 0)
  | [], o, h => by simp [bbA, bkS, h]
  | x :: l, o, h => by
    unfold bbA bkS
    cases hb : bbF x with
    | none => simp only []; exact bkS_ne _ _ _ (bp_no hb)
    | some y =>
      simp only []
      by_cases hl : o.length + y.length ≤ 65528
      · obtain ⟨b1, b2⟩ := bp_ok hb hl
        rw [b1, b2]
        exact bkS_law l (o ++ y) (by rw [List.length_append]; omega)
      · have hne := bkS_ne l (bpB x o 65528 0) _ (bp_full hb h hl)
        split
        · rename_i r hr
          obtain ⟨t, ht⟩ := bbA_pre l _ _ hr
          rw [if_neg (by rw [ht]; simp only [List.length_append]; omega)]
          exact hne
        · exact hne
def rbO (l : List BK) : Option (List Int) := match bbA l [] with
  | some r => if r.length ≤ 65528 then some r else none
  | none => none
theorem bk_law (l : List BK) : bkL l = (rbO l).getD [] ∧ bkE l = (match rbO l with | some _ => 0 | none => 10001) := by
  have h := bkS_law l [] (Nat.zero_le _)
  unfold rbO bkL bkE
  cases hb : bbA l [] with
  | none =>
    rw [hb] at h
    simp only [] at h ⊢
    rw [if_neg h, if_neg h]; exact ⟨rfl, rfl⟩
  | some r =>
    rw [hb] at h
    simp only [] at h ⊢
    by_cases hr : r.length ≤ 65528
    · rw [if_pos hr] at h ⊢
      rw [h]; exact ⟨rfl, rfl⟩
    · rw [if_neg hr] at h ⊢
      rw [if_neg h, if_neg h]; exact ⟨rfl, rfl⟩
end Go.Eng
namespace Go.Eng
open Go.Proofs
set_option linter.unusedVariables false
set_option linter.unusedSimpArgs false
set_option maxRecDepth 100000
set_option maxHeartbeats 1000000
end Go.Eng
namespace Go.Eng
open Go.Proofs
set_option linter.unusedVariables false
set_option linter.unusedSimpArgs false
set_option maxRecDepth 100000
set_option maxHeartbeats 1000000
theorem get5 {y : List Int} (h : 16 ≤ y.length) : getF w5 y = if zeroL ((y.drop 12).take 4) = true then ([numL (y.take 2), numL ((y.drop 2).take 2), numL ((y.drop 4).take 4), numL ((y.drop 8).take 4)], 0) else ([], 2) := by
  have hr : rightF w5 = true := by decide
  unfold getF
  rw [if_pos hr]
  have a4 : absI 4 = 4 := by decide
  have a4' : absI (-4) = 4 := by decide
  have a2 : absI 2 = 2 := by decide
  have t2 : Int.toNat 2 = 2 := rfl
  have t4 : Int.toNat 4 = 4 := rfl
  have p2 : (0 : Int) < 2 := by decide
  have p4 : (0 : Int) < 4 := by decide
  have n4 : ¬ (0 : Int) < -4 := by decide
  unfold w5
  simp only [getA, a4, a4', a2, t2, t4, if_pos p2, if_pos p4, if_neg n4, List.length_drop, List.drop_drop]
  rw [if_neg (by omega), if_neg (by omega), if_neg (by omega), if_neg (by omega), if_neg (by omega)]
  rfl
def btN (y : List Int) : Int := numL (y.take 2)
def btK (y : List Int) : Bool := decide (16 ≤ y.length) && zeroL ((y.drop 12).take 4) && decide (16 ≤ btN y) && decide ((btN y).tmod 8 = 0) && decide (btN y ≤ y.length)
def btA (y : List Int) : List Int := (y.take (btN y).toNat).drop 16
def btE (y : List Int) : Int := if btK y = true then adE (btA y) else 1549
def btV (y : List Int) : BK := if btK y = true then (numL ((y.drop 2).take 2), numL ((y.drop 4).take 4), numL ((y.drop 8).take 4), adL (btA y), ()) else (0, 0, 0, [], ())
def btP (y : List Int) : Int := if btK y = true then btN y else if 16 ≤ y.length then 16 else y.length
theorem btK_parts {y : List Int} (h : btK y = true) : 16 ≤ y.length ∧ zeroL ((y.drop 12).take 4) = true ∧ 16 ≤ btN y ∧ (btN y).tmod 8 = 0 ∧ btN y ≤ y.length := by
  unfold btK at h
  simp only [Bool.and_eq_true, decide_eq_true_eq] at h
  exact ⟨h.1.1.1.1, h.1.1.1.2, h.1.1.2, h.1.2, h.2⟩
theorem btE_K {y : List Int} (h : btE y = 0) : btK y = true := by
  cases hk : btK y with
  | true => rfl
  | false => unfold btE at h; rw [hk] at h; cases h
def bG (y : List Int) : List BK × Int × Int :=
  if y.length = 0 then ([], 0, 0) else if btE y = 0 then (btV y :: (bG (y.drop (max 1 (btN y).toNat))).1, (bG (y.drop (max 1 (btN y).toNat))).2.1, btN y + (bG (y.drop (max 1 (btN y).toNat))).2.2) else ([], btE y, btP y)
termination_by y.length
decreasing_by all_goals (rw [List.length_drop]; omega)
theorem bG_nil {y : List Int} (h : y.length = 0) : bG y = ([], 0, 0) := by rw [bG, if_pos h]
theorem bG_ok {y : List Int} (h : ¬ y.length = 0) (h1 : btE y = 0) : bG y = (btV y :: (bG (y.drop (btN y).toNat)).1, (bG (y.drop (btN y).toNat)).2.1, btN y + (bG (y.drop (btN y).toNat)).2.2) := by
  have hk := btK_parts (btE_K h1)
  rw [bG, if_neg h, if_pos h1, show max 1 (btN y).toNat = (btN y).toNat by omega]
theorem bG_bad {y : List Int} (h : ¬ y.length = 0) (h1 : ¬ btE y = 0) : bG y = ([], btE y, btP y) := by rw [bG, if_neg h, if_neg h1]
def bdE (y : List Int) : Int := if ¬ (bG y).2.1 = 0 then (bG y).2.1 else if 65528 < y.length then 1549 else 0
def bdL (y : List Int) : List BK := if bdE y = 0 then (bG y).1 else []
end Go.Eng
