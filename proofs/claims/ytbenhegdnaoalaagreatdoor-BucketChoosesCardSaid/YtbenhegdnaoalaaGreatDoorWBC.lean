/- Parts of the proof: the last, for this claim. No condition. -/
import Derived.Test.YtbenhegdnaoalaaGreatDoorProg
import Derived.Test.YtbenhegdnaoalaaGreatDoorWA10
import Derived.KernelRfl
import Derived.Test.YtbenhegdnaoalaaGreatDoorWA23
namespace Go.Eng
open Go.Proofs
set_option linter.unusedVariables false
set_option linter.unusedSimpArgs false
set_option maxRecDepth 100000
set_option maxHeartbeats 1000000
theorem bd_bad {b : List Int} {e : Int} (h : (bG b).2.1 = e) (h0 : ¬ e = 0) : bdL b = [] ∧ bdE b = e := by
  have : bdE b = e := by unfold bdE; rw [h, if_pos h0]
  exact ⟨by unfold bdL; rw [this, if_neg h0], this⟩
theorem bd_end {b : List Int} {acc : List BK} (h1 : (bG b).1 = acc) (h : (bG b).2.1 = 0) : (65528 < b.length → bdL b = [] ∧ bdE b = 1549) ∧ (¬ 65528 < b.length → bdL b = acc ∧ bdE b = 0) := by
  have e : bdE b = if 65528 < b.length then 1549 else 0 := by unfold bdE; rw [h, if_neg (not_not_intro rfl)]
  constructor
  · intro hl
    rw [if_pos hl] at e
    exact ⟨by unfold bdL; rw [e]; rfl, e⟩
  · intro hl
    rw [if_neg hl] at e
    exact ⟨by unfold bdL; rw [e, if_pos rfl]; exact h1, e⟩
def ir_r16_Choose : IR :=
(.seq
(.keep [0, 1]
(.reg (oD 4 (.mov (cI 0)) ::
[])))
(.seq
(.reg (oD 5 (.mov (.c (.int .u64 0))) ::
[]))
(.seq
(.seq
(.reg (oD 6 (.mov (cI 0)) ::
[]))
(.block 0
(.loop
(.seq
(.seq
(.keep [0, 1, 5, 6]
(.reg (oM 9 6 ::
oM 10 0 ::
oD 11 (.len (.t 10)) ::
oD 12 (.bin .lss (.t 9) (.t 11)) ::
[])))
(.cond (.t 12)
.skip
(.exit 0)))
(.seq
(.block 1
(.keep [0, 1, 5, 6]
(.reg (oM 15 5 ::
oM 16 0 ::
oM 17 6 ::
oD 18 (.indexSl 4 (.t 16) (.t 17)) ::
oD 19 (.fieldAddr 0 (.t 18)) ::
oL 20 19 ::
oD 21 (.bin .add (.t 15) (.t 20)) ::
oM 5 21 ::
[]))))
(.keep [0, 1, 5, 6]
(.reg (oM 13 6 ::
oD 14 (.bin .add (.t 13) (cI 1)) ::
oM 6 14 ::
[]))))))))
(.seq
(.seq
(.keep [0, 1, 5]
(.reg (oM 22 5 ::
oD 23 (.bin .eql (.t 22) (.c (.int .u64 0))) ::
[])))
(.cond (.t 23)
(.seq
(.reg (oD 4 (.mov (cI (-1))) ::
[]))
.ret)
.skip))
(.seq
(.reg (oM 24 1 ::
oM 25 5 ::
oD 26 (.bin .rem (.t 24) (.t 25)) ::
oM 1 26 ::
[]))
(.seq
(.keep [0, 1]
(.reg (oD 7 (.mov (.c (.int .u64 0))) ::
[])))
(.seq
(.seq
(.reg (oD 8 (.mov (cI 0)) ::
[]))
(.block 2
(.loop
(.seq
(.seq
(.keep [0, 1, 7, 8]
(.reg (oM 27 8 ::
oM 28 0 ::
oD 29 (.len (.t 28)) ::
oD 30 (.bin .lss (.t 27) (.t 29)) ::
[])))
(.cond (.t 30)
.skip
(.exit 2)))
(.seq
(.block 3
(.seq
(.keep [0, 1, 7, 8]
(.reg (oM 33 7 ::
oM 34 0 ::
oM 35 8 ::
oD 36 (.indexSl 4 (.t 34) (.t 35)) ::
oD 37 (.fieldAddr 0 (.t 36)) ::
oL 38 37 ::
oD 39 (.bin .add (.t 33) (.t 38)) ::
oM 7 39 ::
[])))
(.seq
(.keep [0, 1, 7, 8]
(.reg (oM 40 7 ::
oM 41 1 ::
oD 42 (.bin .gtr (.t 40) (.t 41)) ::
[])))
(.cond (.t 42)
(.seq
(.reg (oM 43 8 ::
oM 4 43 ::
[]))
.ret)
.skip))))
(.keep [0, 1, 7, 8]
(.reg (oM 31 8 ::
oD 32 (.bin .add (.t 31) (cI 1)) ::
oM 8 32 ::
[]))))))))
(.seq
(.keep []
(.reg (oD 4 (.mov (cI (-1))) ::
[])))
.ret))))))))
def rd_r16_Choose : List RD := [.tmp 4 true none]
theorem ok_r16_Choose : fnOk Tryz.prog Tryz.f34 ir_r16_Choose rd_r16_Choose = true := by kernel_rfl
def S_r16_Choose : List AV → List Obj → Option (Prop × AV)
  | [.imm (.cons (.int .u64) (.cons (.int .u64) (.cons (.int .u64) (.cons (.sl (.cons (.int .i64) (.cons (.int .u64) (.cons (.int .u64) (.cons (.cons (.int .i64) (.cons (.int .i64) (.cons .bool (.cons (.int .u64) (.cons (.sl (.int .u8)) (.cons (.sl (.int .u8)) .nil)))))) (.cons (.sl (.int .u8)) .nil)))))) .nil)))) l, .int .u64 n], [] => some ((True, .int .i64 (chR l n)))
  | _, _ => none
theorem snd_r16_Choose : SoundS Tryz.prog 34 (RoF S_r16_Choose).sum := by
  refine ro_fn Tryz.func34 ok_r16_Choose (env_nil _) fun args objs p v e => ?_
  unfold S_r16_Choose at e
  split at e
  · rename_i l n
    cases e
    refine ⟨rfl, fun hw ho hp => ?_⟩
    change List BK at l
    have hl : l.length ≤ maxLen := (hw (.imm (.cons (.int .u64) (.cons (.int .u64) (.cons (.int .u64) (.cons (.sl (.cons (.int .i64) (.cons (.int .u64) (.cons (.int .u64) (.cons (.cons (.int .i64) (.cons (.int .i64) (.cons .bool (.cons (.int .u64) (.cons (.sl (.int .u8)) (.cons (.sl (.int .u8)) .nil)))))) (.cons (.sl (.int .u8)) .nil)))))) .nil)))) l) (by simp)).2
    unfold maxLen at hl
    clear hw ho
    repeat' (intro t ht; first | (cases t <;> first | (cases ht; done) | ((try simp only [bn_s] at ht); (try simp only [nd_s] at ht))) | (refine ht ?_ ?_ <;> clear ht) | (refine ht.1 ?_ ?_ <;> clear ht) | (refine ht ?_; clear ht))
    all_goals first
      | exact True.intro
      | (intro r h1 h2; clear h1; refine h2 ⟨[0, 1, 5, 6], Nat × Int, (fun a => a.1 ≤ l.length ∧ chT l 0 = chT (l.drop a.1) a.2), fun a => [.imm (.cons (.int .u64) (.cons (.int .u64) (.cons (.int .u64) (.cons (.sl (.cons (.int .i64) (.cons (.int .u64) (.cons (.int .u64) (.cons (.cons (.int .i64) (.cons (.int .i64) (.cons .bool (.cons (.int .u64) (.cons (.sl (.int .u8)) (.cons (.sl (.int .u8)) .nil)))))) (.cons (.sl (.int .u8)) .nil)))))) .nil)))) l, .int .u64 n, .int .u64 a.2, .int .i64 a.1], fun _ => [], fun a => l.length - a.1, ⟨(0, 0), ⟨Nat.zero_le _, rfl⟩, rfl, rfl⟩, ?_⟩; clear h2)
      | trace_state
    rintro ⟨i, u⟩ ⟨hi, he⟩
    dsimp only at hi he
    repeat' (intro t ht; first | (cases t <;> first | (cases ht; done) | ((try simp only [bn_s] at ht); (try simp only [nd_s] at ht); (try (exfalso; first | contradiction | omega)))) | (refine ht ?_ ?_ <;> clear ht) | (refine ht.1 (by simp only [mm_s]; omega) ?_; clear ht) | (refine ht.2 ?_; clear ht) | (refine ht ?_; clear ht))
    all_goals (try generalize (Ty.dflt (.cons (.int .u64) (.cons (.int .u64) (.cons (.int .u64) (.cons (.sl (.cons (.int .i64) (.cons (.int .u64) (.cons (.int .u64) (.cons (.cons (.int .i64) (.cons (.int .i64) (.cons .bool (.cons (.int .u64) (.cons (.sl (.int .u8)) (.cons (.sl (.int .u8)) .nil)))))) (.cons (.sl (.int .u8)) .nil)))))) .nil))))) = od at *)
    all_goals first
      | exact True.intro
      | ((try simp only [nd_s, bn_s, mm_s] at *); omega)
      | omega
      | assumption
      | (rw [List.drop_of_length_le (show l.length ≤ i by omega)] at he
         have he : chT l 0 = u := he
         unfold chR; rw [he]
         rw [if_pos (by assumption)]; exact ⟨rfl, rfl⟩)
      | exact ⟨(i + 1, _), ⟨by dsimp only; omega, he.trans (chT_step (d := od) (by omega))⟩, by dsimp only; omega, rfl, rfl⟩
      | (intro r h1 h2; clear h1; refine h2 ⟨[0, 1, 7, 8], Nat × Int, (fun a => a.1 ≤ l.length ∧ chI (n.tmod u) l 0 0 = chI (n.tmod u) (l.drop a.1) a.2 a.1), fun a => [.imm (.cons (.int .u64) (.cons (.int .u64) (.cons (.int .u64) (.cons (.sl (.cons (.int .i64) (.cons (.int .u64) (.cons (.int .u64) (.cons (.cons (.int .i64) (.cons (.int .i64) (.cons .bool (.cons (.int .u64) (.cons (.sl (.int .u8)) (.cons (.sl (.int .u8)) .nil)))))) (.cons (.sl (.int .u8)) .nil)))))) .nil)))) l, .int .u64 (n.tmod u), .int .u64 a.2, .int .i64 a.1], fun _ => [], fun a => l.length - a.1, ⟨(0, 0), ⟨Nat.zero_le _, rfl⟩, rfl, rfl⟩, ?_⟩; clear h2)
      | skip
    rintro ⟨j, s⟩ ⟨hj, hs⟩
    dsimp only at hj hs
    rw [List.drop_of_length_le (show l.length ≤ i by omega)] at he
    have he : chT l 0 = u := he
    have hR : chR l n = (chI (n.tmod u) l 0 0).1 := by unfold chR; rw [he, if_neg (by assumption)]
    rw [hR]
    clear hR
    repeat' (intro t ht; first | (cases t <;> first | (cases ht; done) | ((try simp only [bn_s] at ht); (try simp only [nd_s] at ht); (try (exfalso; first | contradiction | omega)))) | (refine ht ?_ ?_ <;> clear ht) | (refine ht.1 (by simp only [mm_s]; omega) ?_; clear ht) | (refine ht.2 ?_; clear ht) | (refine ht ?_; clear ht))
    all_goals (try generalize (Ty.dflt (.cons (.int .u64) (.cons (.int .u64) (.cons (.int .u64) (.cons (.sl (.cons (.int .i64) (.cons (.int .u64) (.cons (.int .u64) (.cons (.cons (.int .i64) (.cons (.int .i64) (.cons .bool (.cons (.int .u64) (.cons (.sl (.int .u8)) (.cons (.sl (.int .u8)) .nil)))))) (.cons (.sl (.int .u8)) .nil)))))) .nil))))) = od at *)
    all_goals first
      | exact True.intro
      | ((try simp only [nd_s, bn_s, mm_s] at *); omega)
      | omega
      | (rw [hs, chI_end (by omega)]; exact ⟨rfl, rfl⟩)
      | (rw [hs, chI_lt (d := od) (by omega) (by assumption)]; exact ⟨rfl, rfl⟩)
      | exact ⟨(j + 1, _), ⟨by dsimp only; omega, hs.trans (chI_ge (d := od) (by omega) (by assumption))⟩, by dsimp only; omega, rfl, rfl⟩
      | skip
  · cases e
end Go.Eng
namespace Go.Eng
open Go.Proofs
set_option linter.unusedVariables false
set_option linter.unusedSimpArgs false
set_option maxRecDepth 100000
set_option maxHeartbeats 1000000
def S16 : List Int := [0, 16, 0, 1, 0, 0, 0, 0, 0, 0, 0, 0, 0, 0, 0, 0]
def S16x : BK := (1, 0, 0, [], ())
theorem ad0 : adL [] = [] ∧ adE [] = 0 := (ad_end (alG_nil rfl)).2 (by decide)
theorem s16k : btK S16 = true ∧ btN S16 = 16 ∧ btA S16 = [] ∧ numL ((S16.drop 2).take 2) = 1 ∧ numL ((S16.drop 4).take 4) = 0 ∧ numL ((S16.drop 8).take 4) = 0 ∧ btK (S16.take 15) = false ∧ rgL [] = true ∧ putK w5 (bkN S16x) = true ∧ putB w5 (bkN S16x) = S16 ∧ chR [S16x] 5 = 0 ∧ chR [] 5 = -1 := by decide +kernel
theorem s16d : bdE S16 = 0 ∧ bdL S16 = [S16x] ∧ bdE (S16.take 15) = 1549 ∧ bkL [S16x] = S16 ∧ bkE [S16x] = 0 ∧ chR [S16x] 5 = 0 ∧ chR [] 5 = -1 ∧ okB [S16x] := by
  obtain ⟨k1, k2, k3, k4, k5, k6, k7, k8, k9, ka, kb, kc⟩ := s16k
  have e1 : btE S16 = 0 := by unfold btE; rw [if_pos k1, k3]; exact ad0.2
  have e2 : btV S16 = S16x := by unfold btV; rw [if_pos k1, k3, k4, k5, k6, ad0.1]; rfl
  have hl : ¬ S16.length = 0 := by decide
  have hb := bG_ok hl e1
  rw [k2, e2] at hb
  have hn : bG (S16.drop (Int.toNat 16)) = ([], 0, 0) := bG_nil rfl
  rw [hn] at hb
  obtain ⟨g1, g2⟩ := (bd_end (b := S16) (acc := [S16x]) (by rw [hb]) (by rw [hb])).2 (by decide)
  have e3 : btE (S16.take 15) = 1549 := if_neg (by rw [k7]; decide)
  have hb2 := bG_bad (y := S16.take 15) (by decide) (by rw [e3]; decide)
  rw [e3] at hb2
  obtain ⟨_, g4⟩ := bd_bad (b := S16.take 15) (e := 1549) (by rw [hb2]) (by decide)
  have hbf : bbF S16x = some S16 := by
    unfold bbF
    have h1 : rgL S16x.2.2.2.1 = true := k8
    rw [if_pos ⟨h1, k9⟩, ka]; rfl
  have hba : bbA [S16x] [] = some S16 := by
    show (match bbF S16x with | some y => bbA [] ([] ++ y) | none => none) = _
    rw [hbf]; rfl
  obtain ⟨g5, g6⟩ := (bk_some hba).1 (by decide)
  exact ⟨g2, g1, g4, g5, g6, kb, kc, ⟨fun o ho => by rw [List.mem_singleton.1 ho]; exact ⟨fun a ha => (by cases ha), by decide⟩, by decide⟩⟩
theorem chI_w {n : Int} : ∀ (l : List BK) (s : Int) (k : Nat), (0 ≤ s ∧ s ≤ 18446744073709551615) → ¬ n < s → (chI n l s k).1 = -1 ∨ ∃ t, t < l.length ∧ (chI n l s k).1 = ((k + t : Nat) : Int) ∧ ∀ d, (l.getD t d).1 ≠ 0
  | [], s, k, _, _ => .inl rfl
  | x :: r, s, k, h, hn => by
    by_cases hc : n < IntKind.u64.wrap (s + x.1)
    · refine .inr ⟨0, by simp, ?_, fun d e => ?_⟩
      · unfold chI; rw [if_pos hc]; rfl
      · have e : x.1 = 0 := e
        rw [e, Int.add_zero, wrap_id (k := .u64) (n := s) ⟨h.1, h.2⟩] at hc
        exact hn hc
    · have hw := wrap_inK .u64 (s + x.1)
      rcases chI_w r (IntKind.u64.wrap (s + x.1)) (k + 1) ⟨hw.1, hw.2⟩ hc with h1 | ⟨t, h1, h2, h3⟩
      · left; unfold chI; rw [if_neg hc]; exact h1
      · refine .inr ⟨t + 1, by simpa using h1, ?_, fun d => by simpa using h3 d⟩
        unfold chI; rw [if_neg hc, h2]; congr 1; omega
theorem chR_w {l : List BK} {n : Int} (hn : 0 ≤ n) : chR l n = -1 ∨ ∃ t : Nat, t < l.length ∧ chR l n = t ∧ ∀ d, (l.getD t d).1 ≠ 0 := by
  unfold chR
  by_cases h : chT l 0 = 0
  · rw [if_pos h]; exact .inl rfl
  · rw [if_neg h]
    have hm : ¬ n.tmod (chT l 0) < 0 := by
      have := Int.tmod_nonneg (chT l 0) hn
      omega
    rcases chI_w l 0 0 ⟨Int.le_refl _, by decide⟩ hm with h1 | ⟨t, h1, h2, h3⟩
    · exact .inl h1
    · exact .inr ⟨t, h1, by rw [h2]; simp, h3⟩
theorem bk_wf {l : List BK} (h : Ty.wf (.sl (.cons (.int .u64) (.cons (.int .u64) (.cons (.int .u64) (.cons (.sl (.cons (.int .i64) (.cons (.int .u64) (.cons (.int .u64) (.cons (.cons (.int .i64) (.cons (.int .i64) (.cons .bool (.cons (.int .u64) (.cons (.sl (.int .u8)) (.cons (.sl (.int .u8)) .nil)))))) (.cons (.sl (.int .u8)) .nil)))))) .nil))))) l) : ∀ o ∈ l, (0 ≤ o.1 ∧ o.1 ≤ 18446744073709551615) ∧ (0 ≤ o.2.1 ∧ o.2.1 ≤ 18446744073709551615) ∧ (0 ≤ o.2.2.1 ∧ o.2.2.1 ≤ 18446744073709551615) := fun o ho => by
  obtain ⟨h1, h2, h3, _⟩ := h.1 o ho
  have u64 : ∀ {n : Int}, Ty.wf (.int .u64) n → 0 ≤ n ∧ n ≤ 18446744073709551615 := fun {n} hn => by
    unfold Ty.wf inK at hn; rw [min_u64, max_u64] at hn; exact hn
  exact ⟨u64 h1, u64 h2, u64 h3⟩
def pre (l : List BK) (i : Nat) : Int := ((l.take i).map (·.1)).sum
structure smW (l : List BK) : Prop where
  w : ∀ o ∈ l, 0 ≤ o.1 ∧ o.1 ≤ 11
  n : l.length ≤ 12
end Go.Eng
namespace Go.Eng
open Go.Proofs
set_option linter.unusedVariables false
set_option linter.unusedSimpArgs false
set_option maxRecDepth 100000
set_option maxHeartbeats 1000000
def ir_l16_sure : IR :=
(.seq
(.keep []
(.reg (oD 0 (.mov cF) ::
[])))
(.seq
(.reg (oD 8 (.sliceAll (.int .u8) 16 [(0, 1, (.c (.int .u8 0))), (1, 1, (.c (.int .u8 16))), (2, 1, (.c (.int .u8 0))), (3, 1, (.c (.int .u8 1))), (4, 1, (.c (.int .u8 0))), (5, 1, (.c (.int .u8 0))), (6, 1, (.c (.int .u8 0))), (7, 1, (.c (.int .u8 0))), (8, 1, (.c (.int .u8 0))), (9, 1, (.c (.int .u8 0))), (10, 1, (.c (.int .u8 0))), (11, 1, (.c (.int .u8 0))), (12, 1, (.c (.int .u8 0))), (13, 1, (.c (.int .u8 0))), (14, 1, (.c (.int .u8 0))), (15, 1, (.c (.int .u8 0)))]) ::
oM 1 8 ::
[]))
(.seq
(.keep [1]
(.reg (oM 10 1 ::
oD 11 (.call false (.f 25) [(.t 10)]) ::
oM 9 11 ::
oD 12 (.extract (.t 9) 0) ::
oD 13 (.extract (.t 9) 1) ::
oM 2 12 ::
oM 3 13 ::
[])))
(.seq
(.keep [1, 2, 3]
(.reg (oM 15 1 ::
oD 16 (.slice 1 (.t 15) none (some (cI 15)) none) ::
oD 17 (.call false (.f 25) [(.t 16)]) ::
oM 14 17 ::
oD 18 (.extract (.t 14) 0) ::
oD 19 (.extract (.t 14) 1) ::
oM 4 18 ::
oM 5 19 ::
[])))
(.seq
(.keep [1, 2, 3, 5]
(.reg (oM 21 2 ::
oD 22 (.call false (.f 36) [(.t 21)]) ::
oM 20 22 ::
oD 23 (.extract (.t 20) 0) ::
oD 24 (.extract (.t 20) 1) ::
oM 6 23 ::
oM 7 24 ::
[])))
(.seq
(.keep [1, 2, 3, 5, 6, 7]
(.reg (oM 25 3 ::
oD 26 (.bin .eql (.t 25) (cI 0)) ::
oM 27 26 ::
oT 27 28 (.mov (.t 2)) ::
oT 27 29 (.len (.t 28)) ::
oT 27 30 (.bin .eql (.t 29) (cI 1)) ::
oD 31 (.pick (.t 27) (.t 30) cF) ::
oM 32 31 ::
oT 32 33 (.mov (.t 2)) ::
oT 32 34 (.indexSl 4 (.t 33) (cI 0)) ::
oT 32 35 (.fieldAddr 0 (.t 34)) ::
oT 32 36 (.load none (.t 35)) ::
oT 32 37 (.bin .eql (.t 36) (.c (.int .u64 1))) ::
oD 38 (.pick (.t 32) (.t 37) cF) ::
oM 39 38 ::
oT 39 40 (.mov (.t 5)) ::
oT 39 41 (.bin .eql (.t 40) (cI 1549)) ::
oD 42 (.pick (.t 39) (.t 41) cF) ::
oM 43 42 ::
oT 43 44 (.mov (.t 7)) ::
oT 43 45 (.bin .eql (.t 44) (cI 0)) ::
oD 46 (.pick (.t 43) (.t 45) cF) ::
oM 47 46 ::
oT 47 48 (.mov (.t 6)) ::
oT 47 49 (.mov (.t 1)) ::
oT 47 50 (.call false (.f 20) [(.t 48), (.t 49)]) ::
oD 51 (.pick (.t 47) (.t 50) cF) ::
oM 52 51 ::
oT 52 53 (.mov (.t 2)) ::
oT 52 54 (.call false (.f 33) [(.t 53), (.c (.int .u64 5))]) ::
oT 52 55 (.bin .eql (.t 54) (cI 0)) ::
oD 56 (.pick (.t 52) (.t 55) cF) ::
oM 57 56 ::
oT 57 58 (.call false (.f 33) [(.c (.imm (.cons (.int .u64) (.cons (.int .u64) (.cons (.int .u64) (.cons (.sl (.cons (.int .i64) (.cons (.int .u64) (.cons (.int .u64) (.cons (.cons (.int .i64) (.cons (.int .i64) (.cons .bool (.cons (.int .u64) (.cons (.sl (.int .u8)) (.cons (.sl (.int .u8)) .nil)))))) (.cons (.sl (.int .u8)) .nil)))))) .nil)))) [])), (.c (.int .u64 5))]) ::
oT 57 59 (.bin .eql (.t 58) (cI (-1))) ::
oD 60 (.pick (.t 57) (.t 59) cF) ::
oM 0 60 ::
[])))
.ret))))))
def rd_l16_sure : List RD := [.tmp 0 true none]
theorem ok_l16_sure : fnOk Tryz.prog Tryz.f24 ir_l16_sure rd_l16_sure = true := by kernel_rfl
def S_l16_sure : List AV → List Obj → Option (Prop × AV)
  | [], [] => some ((True, .bool true))
  | _, _ => none
theorem snd_l16_sure : SoundS Tryz.prog 24 (RoF S_l16_sure).sum := by
  refine ro_fn Tryz.func24 ok_l16_sure (env_cons (s := RoF S_bucket_Decode) snd_bucket_Decode (env_cons (s := RoF S_bucket_Encode) snd_bucket_Encode (env_cons (s := RoF S_r01_Bytes) snd_r01_Bytes (env_cons (s := RoF S_bucket_Choose) snd_bucket_Choose (env_nil _))))) fun args objs p v e => ?_
  unfold S_l16_sure at e
  split at e
  · cases e
    refine ⟨rfl, fun hw ho hp => ?_⟩
    clear hw ho
    obtain ⟨e1, e2, e3, e4, e5, e6, e7, e8⟩ := s16d
    unfold S16 at e1 e2 e3 e4
    repeat' (intro t ht; first | (cases t <;> first | (cases ht; done) | ((try simp only [bn_s] at ht); (try simp only [nd_s] at ht))) | (refine ht ?_ ?_ <;> clear ht) | (refine ht.1 ?_ ?_ <;> clear ht) | (refine ht ?_; clear ht))
    all_goals (try simp only [e1, e2, e3, e4, e5, e6, e7, show Int.toNat 15 = 15 from rfl] at *)
    all_goals first
      | exact True.intro
      | exact e8
      | exact (by decide)
      | contradiction
      | exact ⟨rfl, by first | rfl | exact True.intro⟩
      | skip
  · cases e
def ir_l16_BucketChooses : IR :=
(.seq
(.keep [0, 1]
(.reg (oD 4 (.mov cF) ::
[])))
(.seq
(.seq
(.reg (oM 6 0 ::
oD 7 (.len (.t 6)) ::
oD 8 (.bin .gtr (.t 7) (cI 200)) ::
[]))
(.cond (.t 8)
(.seq
(.reg (oD 9 (.call false (.f 24) []) ::
oM 4 9 ::
[]))
.ret)
.skip))
(.seq
(.keep [0, 1]
(.reg (oM 10 0 ::
oM 11 1 ::
oD 12 (.call false (.f 33) [(.t 10), (.t 11)]) ::
oM 5 12 ::
[])))
(.seq
(.seq
(.keep [0, 1, 5]
(.reg (oM 13 5 ::
oM 14 0 ::
oM 15 1 ::
oD 16 (.call false (.f 34) [(.t 14), (.t 15)]) ::
oD 17 (.bin .neq (.t 13) (.t 16)) ::
[])))
(.cond (.t 17)
(.seq
(.reg (oD 4 (.mov cF) ::
[]))
.ret)
.skip))
(.seq
(.keep [0, 5]
(.reg (oM 18 5 ::
oD 19 (.bin .lss (.t 18) (cI 0)) ::
oM 20 19 ::
oF 20 21 (.mov (.t 5)) ::
oF 20 22 (.mov (.t 0)) ::
oF 20 23 (.len (.t 22)) ::
oF 20 24 (.bin .lss (.t 21) (.t 23)) ::
oF 20 25 (.mov (.t 24)) ::
oT 25 26 (.mov (.t 0)) ::
oT 25 27 (.mov (.t 5)) ::
oT 25 28 (.indexSl 4 (.t 26) (.t 27)) ::
oT 25 29 (.fieldAddr 0 (.t 28)) ::
oT 25 30 (.load none (.t 29)) ::
oT 25 31 (.bin .gtr (.t 30) (.c (.int .u64 0))) ::
oF 20 32 (.pick (.t 25) (.t 31) cF) ::
oD 33 (.pick (.t 20) cT (.t 32)) ::
oM 34 33 ::
oT 34 35 (.call false (.f 24) []) ::
oD 36 (.pick (.t 34) (.t 35) cF) ::
oM 4 36 ::
[])))
.ret)))))
def rd_l16_BucketChooses : List RD := [.tmp 4 true none]
theorem ok_l16_BucketChooses : fnOk Tryz.prog Tryz.f7 ir_l16_BucketChooses rd_l16_BucketChooses = true := by kernel_rfl
def S_l16_BucketChooses : List AV → List Obj → Option (Prop × AV)
  | [.imm (.cons (.int .u64) (.cons (.int .u64) (.cons (.int .u64) (.cons (.sl (.cons (.int .i64) (.cons (.int .u64) (.cons (.int .u64) (.cons (.cons (.int .i64) (.cons (.int .i64) (.cons .bool (.cons (.int .u64) (.cons (.sl (.int .u8)) (.cons (.sl (.int .u8)) .nil)))))) (.cons (.sl (.int .u8)) .nil)))))) .nil)))) l, .int .u64 n], [] => some ((True, .bool true))
  | _, _ => none
theorem snd_l16_BucketChooses : SoundS Tryz.prog 7 (RoF S_l16_BucketChooses).sum := by
  refine ro_fn Tryz.func7 ok_l16_BucketChooses (env_cons (s := RoF S_l16_sure) snd_l16_sure (env_cons (s := RoF S_bucket_Choose) snd_bucket_Choose (env_cons (s := RoF S_r16_Choose) snd_r16_Choose (env_nil _)))) fun args objs p v e => ?_
  unfold S_l16_BucketChooses at e
  split at e
  · rename_i l n
    cases e
    refine ⟨rfl, fun hw ho hp => ?_⟩
    change List BK at l
    have hn : 0 ≤ n := by have h := hw (.int .u64 n) (by simp); unfold AV.wf1 at h; exact h.1
    have hby := bk_wf (l := l) (hw (.imm (.cons (.int .u64) (.cons (.int .u64) (.cons (.int .u64) (.cons (.sl (.cons (.int .i64) (.cons (.int .u64) (.cons (.int .u64) (.cons (.cons (.int .i64) (.cons (.int .i64) (.cons .bool (.cons (.int .u64) (.cons (.sl (.int .u8)) (.cons (.sl (.int .u8)) .nil)))))) (.cons (.sl (.int .u8)) .nil)))))) .nil)))) l) (by simp))
    clear hw ho
    rcases chR_w (l := l) hn with h1 | ⟨j, h1, h2, h3⟩
    · repeat' (intro t ht; first | (cases t <;> first | (cases ht; done) | ((try simp only [bn_s] at ht); (try simp only [nd_s] at ht))) | (refine ht ?_ ?_ <;> clear ht) | (refine ht.1 ?_ ?_ <;> clear ht) | (refine ht ?_; clear ht))
      all_goals (try simp only [h1] at *)
      all_goals first
        | exact True.intro
        | contradiction
        | omega
        | exact ⟨rfl, by first | rfl | exact True.intro⟩
        | exact ⟨True.intro, True.intro⟩
        | (exfalso; omega)
        | skip
    · repeat' (intro t ht; first | (cases t <;> first | (cases ht; done) | ((try simp only [bn_s] at ht); (try simp only [nd_s] at ht))) | (refine ht ?_ ?_ <;> clear ht) | (refine ht.1 ?_ ?_ <;> clear ht) | (refine ht ?_; clear ht))
      all_goals (try generalize (Ty.dflt (.cons (.int .u64) (.cons (.int .u64) (.cons (.int .u64) (.cons (.sl (.cons (.int .i64) (.cons (.int .u64) (.cons (.int .u64) (.cons (.cons (.int .i64) (.cons (.int .i64) (.cons .bool (.cons (.int .u64) (.cons (.sl (.int .u8)) (.cons (.sl (.int .u8)) .nil)))))) (.cons (.sl (.int .u8)) .nil)))))) .nil))))) = od at *)
      all_goals (try simp only [h2, Int.toNat_natCast] at *)
      all_goals first
        | exact True.intro
        | contradiction
        | omega
        | exact ⟨rfl, by first | rfl | exact True.intro⟩
        | exact ⟨True.intro, True.intro⟩
        | (exfalso; omega)
        | (exfalso; have g1 := (hby _ (getD_mem' (show j < l.length by omega) od)).1; have g2 := h3 od; omega)
        | skip
  · cases e
end Go.Eng
namespace Go.Eng
open Go.Proofs
set_option linter.unusedVariables false
set_option linter.unusedSimpArgs false
set_option maxRecDepth 100000
set_option maxHeartbeats 1000000
end Go.Eng
