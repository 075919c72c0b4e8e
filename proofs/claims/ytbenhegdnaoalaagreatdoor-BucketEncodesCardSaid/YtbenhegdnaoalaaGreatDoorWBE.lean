/- Parts of the proof: the last, for this claim. No condition. -/
import Derived.Test.YtbenhegdnaoalaaGreatDoorProg
import Derived.Test.YtbenhegdnaoalaaGreatDoorWA10
import Derived.KernelRfl
import Derived.Test.YtbenhegdnaoalaaGreatDoorWA23
namespace Go.Eng
open Go.Proofs
set_option linter.unusedVariables false
set_option linter.unusedSimpArgs false
set_option maxRecDepth 100000
set_option maxHeartbeats 1000000
theorem bd_bad {b : List Int} {e : Int} (h : (bG b).2.1 = e) (h0 : ¬ e = 0) : bdL b = [] ∧ bdE b = e := by
  have : bdE b = e := by unfold bdE; rw [h, if_pos h0]
  exact ⟨by unfold bdL; rw [this, if_neg h0], this⟩
theorem bd_end {b : List Int} {acc : List BK} (h1 : (bG b).1 = acc) (h : (bG b).2.1 = 0) : (65528 < b.length → bdL b = [] ∧ bdE b = 1549) ∧ (¬ 65528 < b.length → bdL b = acc ∧ bdE b = 0) := by
  have e : bdE b = if 65528 < b.length then 1549 else 0 := by unfold bdE; rw [h, if_neg (not_not_intro rfl)]
  constructor
  · intro hl
    rw [if_pos hl] at e
    exact ⟨by unfold bdL; rw [e]; rfl, e⟩
  · intro hl
    rw [if_neg hl] at e
    exact ⟨by unfold bdL; rw [e, if_pos rfl]; exact h1, e⟩
def fwB (x : BK) : Bool := fewL x.2.2.2.1
def fewB (l : List BK) : Bool := l.all fwB && decide (l.length ≤ 20)
theorem fewB_ok {l : List BK} (h : fewB l = true) : okB l ∧ l.length ≤ 20 := by
  unfold fewB at h
  simp only [Bool.and_eq_true, decide_eq_true_eq] at h
  exact ⟨⟨fun o ho => (fewL_ok (List.all_eq_true.1 h.1 o ho)).1, by omega⟩, h.2⟩
def ir_r16_Few : IR :=
(.seq
(.keep [0]
(.reg (oD 2 (.mov cF) ::
[])))
(.seq
(.seq
(.reg (oD 3 (.mov (cI 0)) ::
[]))
(.block 0
(.loop
(.seq
(.seq
(.keep [0, 3]
(.reg (oM 4 3 ::
oM 5 0 ::
oD 6 (.len (.t 5)) ::
oD 7 (.bin .lss (.t 4) (.t 6)) ::
[])))
(.cond (.t 7)
.skip
(.exit 0)))
(.seq
(.block 1
(.seq
(.keep [0, 3]
(.reg (oM 10 0 ::
oM 11 3 ::
oD 12 (.indexSl 4 (.t 10) (.t 11)) ::
oD 13 (.fieldAddr 3 (.t 12)) ::
oL 14 13 ::
oD 15 (.call false (.f 79) [(.t 14)]) ::
oD 16 (.un .not (.t 15)) ::
[])))
(.cond (.t 16)
(.seq
(.keep []
(.reg (oD 2 (.mov cF) ::
[])))
.ret)
.skip)))
(.keep [0, 3]
(.reg (oM 8 3 ::
oD 9 (.bin .add (.t 8) (cI 1)) ::
oM 3 9 ::
[]))))))))
(.seq
(.keep [0]
(.reg (oM 17 0 ::
oD 18 (.len (.t 17)) ::
oD 19 (.bin .leq (.t 18) (cI 20)) ::
oM 2 19 ::
[])))
.ret)))
def rd_r16_Few : List RD := [.tmp 2 true none]
theorem ok_r16_Few : fnOk Tryz.prog Tryz.f35 ir_r16_Few rd_r16_Few = true := by kernel_rfl
def S_r16_Few : List AV → List Obj → Option (Prop × AV)
  | [.imm (.cons (.int .u64) (.cons (.int .u64) (.cons (.int .u64) (.cons (.sl (.cons (.int .i64) (.cons (.int .u64) (.cons (.int .u64) (.cons (.cons (.int .i64) (.cons (.int .i64) (.cons .bool (.cons (.int .u64) (.cons (.sl (.int .u8)) (.cons (.sl (.int .u8)) .nil)))))) (.cons (.sl (.int .u8)) .nil)))))) .nil)))) l], [] => some ((True, .bool (fewB l)))
  | _, _ => none
theorem snd_r16_Few : SoundS Tryz.prog 35 (RoF S_r16_Few).sum := by
  refine ro_fn Tryz.func35 ok_r16_Few (env_cons (s := RoF S_r13_Few) snd_r13_Few (env_nil _)) fun args objs p v e => ?_
  unfold S_r16_Few at e
  split at e
  · rename_i l
    cases e
    refine ⟨rfl, fun hw ho hp => ?_⟩
    change List BK at l
    have hl : l.length ≤ maxLen := (hw (.imm (.cons (.int .u64) (.cons (.int .u64) (.cons (.int .u64) (.cons (.sl (.cons (.int .i64) (.cons (.int .u64) (.cons (.int .u64) (.cons (.cons (.int .i64) (.cons (.int .i64) (.cons .bool (.cons (.int .u64) (.cons (.sl (.int .u8)) (.cons (.sl (.int .u8)) .nil)))))) (.cons (.sl (.int .u8)) .nil)))))) .nil)))) l) (by simp)).2
    unfold maxLen at hl
    clear hw ho
    repeat' (intro t ht; first | (cases t <;> first | (cases ht; done) | ((try simp only [bn_s] at ht); (try simp only [nd_s] at ht))) | (refine ht ?_ ?_ <;> clear ht) | (refine ht.1 ?_ ?_ <;> clear ht) | (refine ht ?_; clear ht))
    all_goals first
      | (intro r h1 h2; clear h1; refine h2 ⟨[0, 3], Nat, (fun i => i ≤ l.length ∧ (l.take i).all fwB = true), fun i => [.imm (.cons (.int .u64) (.cons (.int .u64) (.cons (.int .u64) (.cons (.sl (.cons (.int .i64) (.cons (.int .u64) (.cons (.int .u64) (.cons (.cons (.int .i64) (.cons (.int .i64) (.cons .bool (.cons (.int .u64) (.cons (.sl (.int .u8)) (.cons (.sl (.int .u8)) .nil)))))) (.cons (.sl (.int .u8)) .nil)))))) .nil)))) l, .int .i64 i], fun _ => [], fun i => l.length - i, ⟨0, ⟨Nat.zero_le _, rfl⟩, rfl, rfl⟩, ?_⟩; clear h2)
    rintro i ⟨hi, he⟩
    repeat' (intro t ht; first | (cases t <;> first | (cases ht; done) | ((try simp only [bn_s] at ht); (try simp only [nd_s] at ht); (try (exfalso; first | contradiction | omega)))) | (refine ht ?_ ?_ <;> clear ht) | (refine ht.1 ?_ ?_ <;> clear ht) | (refine ht ?_; clear ht))
    all_goals (try generalize (Ty.dflt (.cons (.int .u64) (.cons (.int .u64) (.cons (.int .u64) (.cons (.sl (.cons (.int .i64) (.cons (.int .u64) (.cons (.int .u64) (.cons (.cons (.int .i64) (.cons (.int .i64) (.cons .bool (.cons (.int .u64) (.cons (.sl (.int .u8)) (.cons (.sl (.int .u8)) .nil)))))) (.cons (.sl (.int .u8)) .nil)))))) .nil))))) = od at *)
    all_goals first
      | exact True.intro
      | ((try simp only [nd_s, bn_s, mm_s] at *); omega)
      | (have h := allT_end (by omega) he
         refine ⟨?_, rfl⟩; unfold fewB; rw [h, Bool.true_and]; congr 1; exact decide_eq_decide.2 (by omega))
      | (have hf : fwB (l.getD i od) = true := by assumption
         exact ⟨i + 1, ⟨by omega, allT_step (d := od) (by omega) he hf⟩, by dsimp only; omega, rfl, rfl⟩)
      | (have hf : fwB (l.getD i od) = false := by assumption
         have h : fewB l = false := by unfold fewB; rw [all_miss (d := od) (show i < l.length by omega) hf, Bool.false_and]
         refine ⟨?_, rfl⟩; rw [h]; done)
      | skip
  · cases e
end Go.Eng
namespace Go.Eng
open Go.Proofs
set_option linter.unusedVariables false
set_option linter.unusedSimpArgs false
set_option maxRecDepth 100000
set_option maxHeartbeats 1000000
theorem bk_cases (l : List BK) : (bkE l = 0 ∧ (bkL l).length ≤ 65528) ∨ (bkE l = 10001 ∧ bkL l = []) := by
  cases hb : bbA l [] with
  | none => obtain ⟨h1, h2⟩ := bk_none hb; exact .inr ⟨h2, h1⟩
  | some r =>
    obtain ⟨h1, h2⟩ := bk_some hb
    by_cases hr : r.length ≤ 65528
    · obtain ⟨g1, g2⟩ := h1 hr; exact .inl ⟨g2, by rw [g1]; exact hr⟩
    · obtain ⟨g1, g2⟩ := h2 hr; exact .inr ⟨g2, g1⟩
def S16 : List Int := [0, 16, 0, 1, 0, 0, 0, 0, 0, 0, 0, 0, 0, 0, 0, 0]
def S16x : BK := (1, 0, 0, [], ())
theorem ad0 : adL [] = [] ∧ adE [] = 0 := (ad_end (alG_nil rfl)).2 (by decide)
theorem s16k : btK S16 = true ∧ btN S16 = 16 ∧ btA S16 = [] ∧ numL ((S16.drop 2).take 2) = 1 ∧ numL ((S16.drop 4).take 4) = 0 ∧ numL ((S16.drop 8).take 4) = 0 ∧ btK (S16.take 15) = false ∧ rgL [] = true ∧ putK w5 (bkN S16x) = true ∧ putB w5 (bkN S16x) = S16 ∧ chR [S16x] 5 = 0 ∧ chR [] 5 = -1 := by decide +kernel
theorem s16d : bdE S16 = 0 ∧ bdL S16 = [S16x] ∧ bdE (S16.take 15) = 1549 ∧ bkL [S16x] = S16 ∧ bkE [S16x] = 0 ∧ chR [S16x] 5 = 0 ∧ chR [] 5 = -1 ∧ okB [S16x] := by
  obtain ⟨k1, k2, k3, k4, k5, k6, k7, k8, k9, ka, kb, kc⟩ := s16k
  have e1 : btE S16 = 0 := by unfold btE; rw [if_pos k1, k3]; exact ad0.2
  have e2 : btV S16 = S16x := by unfold btV; rw [if_pos k1, k3, k4, k5, k6, ad0.1]; rfl
  have hl : ¬ S16.length = 0 := by decide
  have hb := bG_ok hl e1
  rw [k2, e2] at hb
  have hn : bG (S16.drop (Int.toNat 16)) = ([], 0, 0) := bG_nil rfl
  rw [hn] at hb
  obtain ⟨g1, g2⟩ := (bd_end (b := S16) (acc := [S16x]) (by rw [hb]) (by rw [hb])).2 (by decide)
  have e3 : btE (S16.take 15) = 1549 := if_neg (by rw [k7]; decide)
  have hb2 := bG_bad (y := S16.take 15) (by decide) (by rw [e3]; decide)
  rw [e3] at hb2
  obtain ⟨_, g4⟩ := bd_bad (b := S16.take 15) (e := 1549) (by rw [hb2]) (by decide)
  have hbf : bbF S16x = some S16 := by
    unfold bbF
    have h1 : rgL S16x.2.2.2.1 = true := k8
    rw [if_pos ⟨h1, k9⟩, ka]; rfl
  have hba : bbA [S16x] [] = some S16 := by
    show (match bbF S16x with | some y => bbA [] ([] ++ y) | none => none) = _
    rw [hbf]; rfl
  obtain ⟨g5, g6⟩ := (bk_some hba).1 (by decide)
  exact ⟨g2, g1, g4, g5, g6, kb, kc, ⟨fun o ho => by rw [List.mem_singleton.1 ho]; exact ⟨fun a ha => (by cases ha), by decide⟩, by decide⟩⟩
def pre (l : List BK) (i : Nat) : Int := ((l.take i).map (·.1)).sum
structure smW (l : List BK) : Prop where
  w : ∀ o ∈ l, 0 ≤ o.1 ∧ o.1 ≤ 11
  n : l.length ≤ 12
end Go.Eng
namespace Go.Eng
open Go.Proofs
set_option linter.unusedVariables false
set_option linter.unusedSimpArgs false
set_option maxRecDepth 100000
set_option maxHeartbeats 1000000
def ir_l16_sure : IR :=
(.seq
(.keep []
(.reg (oD 0 (.mov cF) ::
[])))
(.seq
(.reg (oD 8 (.sliceAll (.int .u8) 16 [(0, 1, (.c (.int .u8 0))), (1, 1, (.c (.int .u8 16))), (2, 1, (.c (.int .u8 0))), (3, 1, (.c (.int .u8 1))), (4, 1, (.c (.int .u8 0))), (5, 1, (.c (.int .u8 0))), (6, 1, (.c (.int .u8 0))), (7, 1, (.c (.int .u8 0))), (8, 1, (.c (.int .u8 0))), (9, 1, (.c (.int .u8 0))), (10, 1, (.c (.int .u8 0))), (11, 1, (.c (.int .u8 0))), (12, 1, (.c (.int .u8 0))), (13, 1, (.c (.int .u8 0))), (14, 1, (.c (.int .u8 0))), (15, 1, (.c (.int .u8 0)))]) ::
oM 1 8 ::
[]))
(.seq
(.keep [1]
(.reg (oM 10 1 ::
oD 11 (.call false (.f 25) [(.t 10)]) ::
oM 9 11 ::
oD 12 (.extract (.t 9) 0) ::
oD 13 (.extract (.t 9) 1) ::
oM 2 12 ::
oM 3 13 ::
[])))
(.seq
(.keep [1, 2, 3]
(.reg (oM 15 1 ::
oD 16 (.slice 1 (.t 15) none (some (cI 15)) none) ::
oD 17 (.call false (.f 25) [(.t 16)]) ::
oM 14 17 ::
oD 18 (.extract (.t 14) 0) ::
oD 19 (.extract (.t 14) 1) ::
oM 4 18 ::
oM 5 19 ::
[])))
(.seq
(.keep [1, 2, 3, 5]
(.reg (oM 21 2 ::
oD 22 (.call false (.f 36) [(.t 21)]) ::
oM 20 22 ::
oD 23 (.extract (.t 20) 0) ::
oD 24 (.extract (.t 20) 1) ::
oM 6 23 ::
oM 7 24 ::
[])))
(.seq
(.keep [1, 2, 3, 5, 6, 7]
(.reg (oM 25 3 ::
oD 26 (.bin .eql (.t 25) (cI 0)) ::
oM 27 26 ::
oT 27 28 (.mov (.t 2)) ::
oT 27 29 (.len (.t 28)) ::
oT 27 30 (.bin .eql (.t 29) (cI 1)) ::
oD 31 (.pick (.t 27) (.t 30) cF) ::
oM 32 31 ::
oT 32 33 (.mov (.t 2)) ::
oT 32 34 (.indexSl 4 (.t 33) (cI 0)) ::
oT 32 35 (.fieldAddr 0 (.t 34)) ::
oT 32 36 (.load none (.t 35)) ::
oT 32 37 (.bin .eql (.t 36) (.c (.int .u64 1))) ::
oD 38 (.pick (.t 32) (.t 37) cF) ::
oM 39 38 ::
oT 39 40 (.mov (.t 5)) ::
oT 39 41 (.bin .eql (.t 40) (cI 1549)) ::
oD 42 (.pick (.t 39) (.t 41) cF) ::
oM 43 42 ::
oT 43 44 (.mov (.t 7)) ::
oT 43 45 (.bin .eql (.t 44) (cI 0)) ::
oD 46 (.pick (.t 43) (.t 45) cF) ::
oM 47 46 ::
oT 47 48 (.mov (.t 6)) ::
oT 47 49 (.mov (.t 1)) ::
oT 47 50 (.call false (.f 20) [(.t 48), (.t 49)]) ::
oD 51 (.pick (.t 47) (.t 50) cF) ::
oM 52 51 ::
oT 52 53 (.mov (.t 2)) ::
oT 52 54 (.call false (.f 33) [(.t 53), (.c (.int .u64 5))]) ::
oT 52 55 (.bin .eql (.t 54) (cI 0)) ::
oD 56 (.pick (.t 52) (.t 55) cF) ::
oM 57 56 ::
oT 57 58 (.call false (.f 33) [(.c (.imm (.cons (.int .u64) (.cons (.int .u64) (.cons (.int .u64) (.cons (.sl (.cons (.int .i64) (.cons (.int .u64) (.cons (.int .u64) (.cons (.cons (.int .i64) (.cons (.int .i64) (.cons .bool (.cons (.int .u64) (.cons (.sl (.int .u8)) (.cons (.sl (.int .u8)) .nil)))))) (.cons (.sl (.int .u8)) .nil)))))) .nil)))) [])), (.c (.int .u64 5))]) ::
oT 57 59 (.bin .eql (.t 58) (cI (-1))) ::
oD 60 (.pick (.t 57) (.t 59) cF) ::
oM 0 60 ::
[])))
.ret))))))
def rd_l16_sure : List RD := [.tmp 0 true none]
theorem ok_l16_sure : fnOk Tryz.prog Tryz.f24 ir_l16_sure rd_l16_sure = true := by kernel_rfl
def S_l16_sure : List AV → List Obj → Option (Prop × AV)
  | [], [] => some ((True, .bool true))
  | _, _ => none
theorem snd_l16_sure : SoundS Tryz.prog 24 (RoF S_l16_sure).sum := by
  refine ro_fn Tryz.func24 ok_l16_sure (env_cons (s := RoF S_bucket_Decode) snd_bucket_Decode (env_cons (s := RoF S_bucket_Encode) snd_bucket_Encode (env_cons (s := RoF S_r01_Bytes) snd_r01_Bytes (env_cons (s := RoF S_bucket_Choose) snd_bucket_Choose (env_nil _))))) fun args objs p v e => ?_
  unfold S_l16_sure at e
  split at e
  · cases e
    refine ⟨rfl, fun hw ho hp => ?_⟩
    clear hw ho
    obtain ⟨e1, e2, e3, e4, e5, e6, e7, e8⟩ := s16d
    unfold S16 at e1 e2 e3 e4
    repeat' (intro t ht; first | (cases t <;> first | (cases ht; done) | ((try simp only [bn_s] at ht); (try simp only [nd_s] at ht))) | (refine ht ?_ ?_ <;> clear ht) | (refine ht.1 ?_ ?_ <;> clear ht) | (refine ht ?_; clear ht))
    all_goals (try simp only [e1, e2, e3, e4, e5, e6, e7, show Int.toNat 15 = 15 from rfl] at *)
    all_goals first
      | exact True.intro
      | exact e8
      | exact (by decide)
      | contradiction
      | exact ⟨rfl, by first | rfl | exact True.intro⟩
      | skip
  · cases e
def ir_l16_BucketEncodes : IR :=
(.seq
(.keep [0, 1]
(.reg (oD 4 (.mov cF) ::
[])))
(.seq
(.seq
(.keep [0, 1]
(.reg (oM 12 0 ::
oD 13 (.call false (.f 35) [(.t 12)]) ::
oD 14 (.un .not (.t 13)) ::
oM 15 14 ::
oF 15 16 (.mov (.t 1)) ::
oF 15 17 (.len (.t 16)) ::
oF 15 18 (.bin .gtr (.t 17) (cI 100)) ::
oD 19 (.pick (.t 15) cT (.t 18)) ::
[])))
(.cond (.t 19)
(.seq
(.keep []
(.reg (oD 20 (.call false (.f 24) []) ::
oM 4 20 ::
[])))
.ret)
.skip))
(.seq
(.keep [0, 1]
(.reg (oM 22 0 ::
oD 23 (.call false (.f 36) [(.t 22)]) ::
oM 21 23 ::
oD 24 (.extract (.t 21) 0) ::
oD 25 (.extract (.t 21) 1) ::
oM 5 24 ::
oM 6 25 ::
[])))
(.seq
(.keep [0, 1, 5, 6]
(.reg (oM 27 0 ::
oD 28 (.call false (.f 37) [(.t 27)]) ::
oM 26 28 ::
oD 29 (.extract (.t 26) 0) ::
oD 30 (.extract (.t 26) 1) ::
oM 7 29 ::
oM 8 30 ::
[])))
(.seq
(.keep [0, 1, 5, 6, 7, 8]
(.reg (oD 31 (.call false (.f 38) [(cI 200000)]) ::
oM 9 31 ::
[])))
(.seq
(.reg (oM 32 9 ::
oM 33 1 ::
oD 34 (.call false (.f 39) [(.t 32), (.t 33)]) ::
[]))
(.seq
(.reg (oM 35 9 ::
oM 36 0 ::
oD 37 (.call false (.f 40) [(.t 35), (.t 36)]) ::
[]))
(.seq
(.keep [0, 1, 5, 6, 7, 8, 9]
(.reg (oM 39 9 ::
oD 40 (.call false (.f 41) [(.t 39)]) ::
oM 38 40 ::
oD 41 (.extract (.t 38) 0) ::
oD 42 (.extract (.t 38) 1) ::
oM 10 41 ::
oM 11 42 ::
[])))
(.seq
(.seq
(.keep [0, 1, 5, 6, 7, 8, 10, 11]
(.reg (oM 43 0 ::
oD 44 (.call false (.f 42) [(.t 43)]) ::
oM 45 8 ::
oD 46 (.bin .eql (.t 45) (cI 0)) ::
oD 47 (.eqb true (.t 44) (.t 46)) ::
oM 48 47 ::
oF 48 49 (.mov (.t 5)) ::
oF 48 50 (.mov (.t 7)) ::
oF 48 51 (.call false (.f 20) [(.t 49), (.t 50)]) ::
oF 48 52 (.un .not (.t 51)) ::
oD 53 (.pick (.t 48) cT (.t 52)) ::
oM 54 53 ::
oF 54 55 (.mov (.t 6)) ::
oF 54 56 (.mov (.t 8)) ::
oF 54 57 (.bin .neq (.t 55) (.t 56)) ::
oD 58 (.pick (.t 54) cT (.t 57)) ::
oM 59 58 ::
oF 59 60 (.mov (.t 11)) ::
oF 59 61 (.mov (.t 8)) ::
oF 59 62 (.bin .neq (.t 60) (.t 61)) ::
oD 63 (.pick (.t 59) cT (.t 62)) ::
[])))
(.cond (.t 63)
(.seq
(.keep []
(.reg (oD 4 (.mov cF) ::
[])))
.ret)
.skip))
(.seq
(.keep [1, 7, 8, 10]
(.reg (oM 64 8 ::
oD 65 (.bin .neq (.t 64) (cI 0)) ::
oM 66 65 ::
oF 66 67 (.mov (.t 10)) ::
oF 66 68 (.slice0 (.int .u8)) ::
oF 66 69 (.mov (.t 1)) ::
oF 66 70 (.append (.int .u8) 1 (.t 68) (.t 69)) ::
oF 66 71 (.mov (.t 7)) ::
oF 66 72 (.append (.int .u8) 1 (.t 70) (.t 71)) ::
oF 66 73 (.call false (.f 20) [(.t 67), (.t 72)]) ::
oD 74 (.pick (.t 66) cT (.t 73)) ::
oM 75 74 ::
oT 75 76 (.call false (.f 24) []) ::
oD 77 (.pick (.t 75) (.t 76) cF) ::
oM 4 77 ::
[])))
.ret))))))))))
def rd_l16_BucketEncodes : List RD := [.tmp 4 true none]
theorem ok_l16_BucketEncodes : fnOk Tryz.prog Tryz.f9 ir_l16_BucketEncodes rd_l16_BucketEncodes = true := by kernel_rfl
def S_l16_BucketEncodes : List AV → List Obj → Option (Prop × AV)
  | [.imm (.cons (.int .u64) (.cons (.int .u64) (.cons (.int .u64) (.cons (.sl (.cons (.int .i64) (.cons (.int .u64) (.cons (.int .u64) (.cons (.cons (.int .i64) (.cons (.int .i64) (.cons .bool (.cons (.int .u64) (.cons (.sl (.int .u8)) (.cons (.sl (.int .u8)) .nil)))))) (.cons (.sl (.int .u8)) .nil)))))) .nil)))) l, .imm (.int .u8) b], [] => some ((True, .bool true))
  | _, _ => none
theorem snd_l16_BucketEncodes : SoundS Tryz.prog 9 (RoF S_l16_BucketEncodes).sum := by
  refine ro_fn Tryz.func9 ok_l16_BucketEncodes (env_cons (s := RoF S_r16_Few) snd_r16_Few (env_cons (s := RoF S_l16_sure) snd_l16_sure (env_cons (s := RoF S_bucket_Encode) snd_bucket_Encode (env_cons (s := RoF S_r16_Encode) snd_r16_Encode (env_cons (s := RwF S_buffer_New) snd_buffer_New (env_cons (s := RwF S_buffer_Buffer_Bytes) snd_buffer_Buffer_Bytes (env_cons (s := RwF S_bucket_Put) snd_bucket_Put (env_cons (s := RwF S_buffer_Buffer_Done) snd_buffer_Buffer_Done (env_cons (s := RoF S_bucket_Right) snd_bucket_Right (env_cons (s := RoF S_r01_Bytes) snd_r01_Bytes (env_nil _))))))))))) fun args objs p v e => ?_
  unfold S_l16_BucketEncodes at e
  split at e
  · rename_i l b
    cases e
    refine ⟨rfl, fun hw ho hp => ?_⟩
    change List Int at b
    change List BK at l
    clear hw ho
    cases hf : fewB l with
    | false =>
      repeat' (intro t ht; first | (cases t <;> first | (cases ht; done) | ((try simp only [bn_s] at ht); (try simp only [nd_s] at ht); (try (exfalso; first | contradiction | omega)))) | (refine ht ?_ ?_ <;> clear ht) | (refine ht.1 ?_ ?_ <;> clear ht) | (refine ht ?_; clear ht))
      all_goals first
        | exact True.intro
        | exact ⟨rfl, rfl⟩
        | (exfalso; simp_all; done)
        | trace_state
    | true =>
      by_cases hbl : b.length ≤ 100
      · obtain ⟨hok, hl20⟩ := fewB_ok hf
        have hroom : roomF 200000 = 200000 := by decide
        obtain ⟨b1, b2⟩ := buf_ok (x := b) (l := []) (room := 200000) (by simp only [List.length_nil]; omega)
        rw [List.nil_append] at b1
        have hll : bkpB b 200000 0 l = bufB (bkL l) b 200000 (failE 0 (bkE l)) := rfl
        have hle : bkpE b 200000 0 l = bufE (bkL l) b 200000 (failE 0 (bkE l)) := rfl
        rcases bk_cases l with ⟨c1, c2⟩ | ⟨c1, c2⟩
        · obtain ⟨m1, m2⟩ := buf_ok (x := bkL l) (l := b) (room := 200000) (by omega)
          have f0 : failE 0 0 = 0 := rfl
          rw [c1, f0, m1] at hll
          rw [c1, f0, m2] at hle
          have dE : doneE [] 0 = 0 := rfl
          have dL : doneL (b ++ bkL l) [] 0 = b ++ bkL l := rfl
          repeat' (intro t ht; first | (cases t <;> first | (cases ht; done) | ((try simp only [bn_s] at ht); (try simp only [nd_s] at ht))) | (refine ht ?_ ?_ <;> clear ht) | (refine ht.1 ?_ ?_ <;> clear ht) | (refine ht ?_; clear ht))
          all_goals (try simp only [hf, c1, hroom, b1, b2, hll, hle, dE, dL] at *)
          all_goals first
            | exact True.intro
            | contradiction
            | exact hok
            | exact ⟨hok, by omega⟩
            | exact ⟨by decide, by decide, by decide, by omega⟩
            | exact ⟨hok, by decide, by decide, by omega⟩
            | omega
            | exact ⟨rfl, by first | rfl | exact True.intro⟩
            | exact ⟨True.intro, True.intro⟩
            | (constructor <;> (try simp only [List.length_nil]) <;> omega)
            | (rw [List.length_append]; omega)
            | (simp only [cast_rfl, List.length_append, List.length_nil, Nat.zero_add]; constructor <;> omega)
            | (exfalso; omega)
            | (exfalso; simp_all; done)
            | ((try simp only [nd_s, bn_s, mm_s] at *); omega)
            | skip
        · have f1 : failE 0 10001 = 10001 := rfl
          have m2 : bufE (bkL l) b 200000 10001 = 10001 := if_neg (by decide)
          rw [c1, f1, m2] at hle
          have dE : ∀ x, doneE x 10001 = 10001 := fun x => if_neg (by decide)
          have hlb : (bkpB b 200000 0 l).length ≤ 1000000 := bufB_lim (by omega) (by decide)
          repeat' (intro t ht; first | (cases t <;> first | (cases ht; done) | ((try simp only [bn_s] at ht); (try simp only [nd_s] at ht))) | (refine ht ?_ ?_ <;> clear ht) | (refine ht.1 ?_ ?_ <;> clear ht) | (refine ht ?_; clear ht))
          all_goals (try simp only [hf, c1, c2, hroom, b1, b2, hle, dE] at *)
          all_goals first
            | exact True.intro
            | contradiction
            | exact hok
            | exact ⟨hok, by omega⟩
            | exact ⟨by decide, by decide, by decide, by omega⟩
            | exact ⟨hok, by decide, by decide, by omega⟩
            | omega
            | exact ⟨rfl, by first | rfl | exact True.intro⟩
            | exact ⟨True.intro, True.intro⟩
            | (constructor <;> (try simp only [List.length_nil]) <;> omega)
            | (rw [List.length_append]; omega)
            | (constructor <;> omega)
            | (refine ⟨?_, Nat.zero_le _⟩; omega)
            | (exfalso; omega)
            | (exfalso; simp_all; done)
            | skip
      · repeat' (intro t ht; first | (cases t <;> first | (cases ht; done) | ((try simp only [bn_s] at ht); (try simp only [nd_s] at ht); (try (exfalso; first | contradiction | omega)))) | (refine ht ?_ ?_ <;> clear ht) | (refine ht.1 ?_ ?_ <;> clear ht) | (refine ht ?_; clear ht))
        all_goals first
          | exact True.intro
          | exact ⟨rfl, rfl⟩
          | (exfalso; omega)
          | (exfalso; simp_all; done)
          | trace_state
  · cases e
end Go.Eng
namespace Go.Eng
open Go.Proofs
set_option linter.unusedVariables false
set_option linter.unusedSimpArgs false
set_option maxRecDepth 100000
set_option maxHeartbeats 1000000
end Go.Eng
