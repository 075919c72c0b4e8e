/- Parts of the proof: OA, OE, OI, M1. No condition. -/
import Derived.Test.YtbenhegdnaoalaaGreatDoorProg
import Derived.Test.YtbenhegdnaoalaaGreatDoorWA10
import Derived.KernelRfl
import Derived.Test.YtbenhegdnaoalaaGreatDoorWA14
import Derived.Test.YtbenhegdnaoalaaGreatDoorWA15
namespace Go.Eng
open Go.Proofs
set_option linter.unusedVariables false
set_option linter.unusedSimpArgs false
set_option maxRecDepth 100000
set_option maxHeartbeats 1000000
def ir_r08_Alike : IR :=
(.seq
(.keep [0, 1]
(.reg (oD 2 (.boxv (.t 0)) ::
oD 3 (.boxv (.t 1)) ::
oD 4 (.mov cF) ::
[])))
(.seq
(.keep [2, 3]
(.reg (oD 5 (.fieldAddr 0 (.t 2)) ::
oL 6 5 ::
oD 7 (.fieldAddr 0 (.t 3)) ::
oL 8 7 ::
oD 9 (.bin .eql (.t 6) (.t 8)) ::
oM 10 9 ::
oT 10 11 (.fieldAddr 1 (.t 2)) ::
oT 10 12 (.load none (.t 11)) ::
oT 10 13 (.fieldAddr 1 (.t 3)) ::
oT 10 14 (.load none (.t 13)) ::
oT 10 15 (.bin .eql (.t 12) (.t 14)) ::
oD 16 (.pick (.t 10) (.t 15) cF) ::
oM 17 16 ::
oT 17 18 (.fieldAddr 3 (.t 2)) ::
oT 17 19 (.load none (.t 18)) ::
oT 17 20 (.fieldAddr 3 (.t 3)) ::
oT 17 21 (.load none (.t 20)) ::
oT 17 22 (.bin .eql (.t 19) (.t 21)) ::
oD 23 (.pick (.t 17) (.t 22) cF) ::
oM 4 23 ::
[])))
.ret))
def rd_r08_Alike : List RD := [.tmp 4 true none]
theorem ok_r08_Alike : fnOk Tryz.prog Tryz.f216 ir_r08_Alike rd_r08_Alike = true := by kernel_rfl
def S_r08_Alike : List AV → List Obj → Option (Prop × AV)
  | [.agg [.int .i64 c, .int .i64 f, .bool h, .int .u64 x, .imm (.int .u8) v, .imm (.int .u8) m], .agg [.int .i64 c', .int .i64 f', .bool h', .int .u64 x', .imm (.int .u8) v', .imm (.int .u8) m']], [] => some ((True, .bool (decide (c = c') && decide (f = f') && decide (x = x'))))
  | _, _ => none
theorem snd_r08_Alike : SoundS Tryz.prog 216 (RoF S_r08_Alike).sum := by
  refine ro_fn Tryz.func216 ok_r08_Alike (env_nil _) fun args objs p v e => ?_
  unfold S_r08_Alike at e
  split at e
  · rename_i c f h x v m c' f' h' x' v' m'
    cases e
    refine ⟨rfl, fun hw ho hp => ?_⟩
    change List Int at v
    change List Int at m
    change List Int at v'
    change List Int at m'
    repeat' (intro t ht; first | (cases t <;> first | (cases ht; done) | ((try simp only [bn_s] at ht); (try simp only [nd_s] at ht))) | (refine ht ?_ ?_ <;> clear ht) | (refine ht.1 ?_ ?_ <;> clear ht) | (refine ht ?_; clear ht))
    all_goals first
      | exact True.intro
      | (simp_all; done)
      | trace_state
  · cases e
def sameO (c f : Int) (h : Bool) (x : Int) (v m : List Int) (c' f' : Int) (h' : Bool) (x' : Int) (v' m' : List Int) : Bool := decide (c = c') && decide (f = f') && decide (x = x') && (h == h') && decide (v = v') && decide (m = m')
theorem same_self (c f : Int) (h : Bool) (x : Int) (v m : List Int) : sameO c f h x v m c f h x v m = true := by unfold sameO; simp
def ir_r08_Same : IR :=
(.seq
(.keep [0, 1]
(.reg (oD 2 (.boxv (.t 0)) ::
oD 3 (.boxv (.t 1)) ::
oD 4 (.mov cF) ::
[])))
(.seq
(.keep [2, 3]
(.reg (oD 5 (.load (some 6) (.t 2)) ::
oD 6 (.load (some 6) (.t 3)) ::
oD 7 (.call false (.f 216) [(.t 5), (.t 6)]) ::
oM 8 7 ::
oT 8 9 (.fieldAddr 2 (.t 2)) ::
oT 8 10 (.load none (.t 9)) ::
oT 8 11 (.fieldAddr 2 (.t 3)) ::
oT 8 12 (.load none (.t 11)) ::
oT 8 13 (.eqb false (.t 10) (.t 12)) ::
oD 14 (.pick (.t 8) (.t 13) cF) ::
oM 15 14 ::
oT 15 16 (.fieldAddr 4 (.t 2)) ::
oT 15 17 (.load none (.t 16)) ::
oT 15 18 (.fieldAddr 4 (.t 3)) ::
oT 15 19 (.load none (.t 18)) ::
oT 15 20 (.call false (.f 20) [(.t 17), (.t 19)]) ::
oD 21 (.pick (.t 15) (.t 20) cF) ::
oM 22 21 ::
oT 22 23 (.fieldAddr 5 (.t 2)) ::
oT 22 24 (.load none (.t 23)) ::
oT 22 25 (.fieldAddr 5 (.t 3)) ::
oT 22 26 (.load none (.t 25)) ::
oT 22 27 (.call false (.f 20) [(.t 24), (.t 26)]) ::
oD 28 (.pick (.t 22) (.t 27) cF) ::
oM 4 28 ::
[])))
.ret))
def rd_r08_Same : List RD := [.tmp 4 true none]
theorem ok_r08_Same : fnOk Tryz.prog Tryz.f164 ir_r08_Same rd_r08_Same = true := by kernel_rfl
def S_r08_Same : List AV → List Obj → Option (Prop × AV)
  | [.agg [.int .i64 c, .int .i64 f, .bool h, .int .u64 x, .imm (.int .u8) v, .imm (.int .u8) m], .agg [.int .i64 c', .int .i64 f', .bool h', .int .u64 x', .imm (.int .u8) v', .imm (.int .u8) m']], [] => some ((True, .bool (sameO c f h x v m c' f' h' x' v' m')))
  | _, _ => none
theorem snd_r08_Same : SoundS Tryz.prog 164 (RoF S_r08_Same).sum := by
  refine ro_fn Tryz.func164 ok_r08_Same (env_cons (s := RoF S_r08_Alike) snd_r08_Alike (env_cons (s := RoF S_r01_Bytes) snd_r01_Bytes (env_nil _))) fun args objs p v e => ?_
  unfold S_r08_Same at e
  split at e
  · rename_i c f h x v m c' f' h' x' v' m'
    cases e
    refine ⟨rfl, fun hw ho hp => ?_⟩
    change List Int at v
    change List Int at m
    change List Int at v'
    change List Int at m'
    repeat' (intro t ht; first | (cases t <;> first | (cases ht; done) | ((try simp only [bn_s] at ht); (try simp only [nd_s] at ht))) | (refine ht ?_ ?_ <;> clear ht) | (refine ht.1 ?_ ?_ <;> clear ht) | (refine ht ?_; clear ht))
    all_goals first
      | exact True.intro
      | (refine ⟨?_, rfl⟩; unfold sameO; simp_all; done)
      | (refine ⟨?_, rfl⟩; unfold sameO; cases h <;> cases h' <;> simp_all; done)
      | (refine ⟨?_, rfl⟩; unfold sameO; rcases ‹(¬c = c' ∨ ¬f = f') ∨ ¬x = x'› with (h1 | h1) | h1 <;> rw [decide_eq_false h1] <;> simp)
      | trace_state
  · cases e
def ir_r08_Few : IR :=
(.seq
(.keep [0]
(.reg (oD 1 (.boxv (.t 0)) ::
oD 2 (.mov cF) ::
[])))
(.seq
(.keep [1]
(.reg (oD 3 (.fieldAddr 4 (.t 1)) ::
oL 4 3 ::
oD 5 (.len (.t 4)) ::
oD 6 (.bin .leq (.t 5) (cI 300)) ::
oM 7 6 ::
oT 7 8 (.fieldAddr 5 (.t 1)) ::
oT 7 9 (.load none (.t 8)) ::
oT 7 10 (.len (.t 9)) ::
oT 7 11 (.bin .leq (.t 10) (cI 300)) ::
oD 12 (.pick (.t 7) (.t 11) cF) ::
oM 2 12 ::
[])))
.ret))
def rd_r08_Few : List RD := [.tmp 2 true none]
theorem ok_r08_Few : fnOk Tryz.prog Tryz.f146 ir_r08_Few rd_r08_Few = true := by kernel_rfl
def S_r08_Few : List AV → List Obj → Option (Prop × AV)
  | [.agg [.int .i64 c, .int .i64 f, .bool h, .int .u64 x, .imm (.int .u8) v, .imm (.int .u8) m]], [] => some ((True, .bool (decide (v.length ≤ 300) && decide (m.length ≤ 300))))
  | _, _ => none
theorem snd_r08_Few : SoundS Tryz.prog 146 (RoF S_r08_Few).sum := by
  refine ro_fn Tryz.func146 ok_r08_Few (env_nil _) fun args objs p v e => ?_
  unfold S_r08_Few at e
  split at e
  · rename_i c f h x v m
    cases e
    refine ⟨rfl, fun hw ho hp => ?_⟩
    change List Int at v
    change List Int at m
    repeat' (intro t ht; first | (cases t <;> first | (cases ht; done) | ((try simp only [bn_s] at ht); (try simp only [nd_s] at ht))) | (refine ht ?_ ?_ <;> clear ht) | (refine ht.1 ?_ ?_ <;> clear ht) | (refine ht ?_; clear ht))
    all_goals first
      | exact True.intro
      | (simp_all; done)
      | (have e : decide (v.length ≤ 300) = false := decide_eq_false (by omega)
         rw [e]; exact ⟨rfl, rfl⟩)
      | (have e : decide (v.length ≤ 300) = true := decide_eq_true (by omega)
         rw [e]; refine ⟨?_, rfl⟩; rw [Bool.true_and]; congr 1; rw [Bool.eq_iff_iff]; simp only [decide_eq_true_eq]; omega)
      | trace_state
  · cases e
def rE (b : List Int) : Int := if b.length < 4 then 1026 else if ofOk (decC b) (decF b) = false then 1031 else if decH b = true ∧ ofMask (decC b) (decF b) = false then 1033 else if decK b = false ∨ (b.length : Int) - 4 < b.getD 3 0 then 1026 else refW (decC b) (decF b) (decH b) (decV b) (decM b)
def rI (b : List Int) (x : Int) : Int := if rE b = 0 then x else 0
def rR (b : List Int) (l : List Int) : List Int := if rE b = 0 then l else []
theorem sizeR_le (f : Int) : 0 ≤ sizeR f ∧ sizeR f ≤ 16 := by
  cases h : fIs f with
  | true =>
    have hn := fIs_t.1 h
    have := tab_le f.toNat (by omega)
    rw [Int.toNat_of_nonneg hn.1] at this
    omega
  | false => unfold sizeR; rw [h]; exact ⟨Int.le_refl _, show (0 : Int) ≤ 16 by decide⟩
theorem lawK8 : ∀ k < 40, fBits (k : Nat) = bitsR (k : Nat) ∧ fSize (k : Nat) = sizeR (k : Nat) ∧ fMask (k : Nat) = maskR (k : Nat) := by decide +kernel
theorem law8 (f : Int) : fBits f = bitsR f ∧ fSize f = sizeR f ∧ fMask f = maskR f := by
  cases h : fIs f with
  | true =>
    have hn := fIs_t.1 h
    have := lawK8 f.toNat (by omega)
    rwa [Int.toNat_of_nonneg hn.1] at this
  | false =>
    unfold fBits bitsR fSize sizeR fMask maskR; rw [h]; exact ⟨rfl, rfl, rfl⟩
theorem kB {b : List Int} (hc : decC b = 32768) : ofOk (decC b) (decF b) = fIs (decF b) ∧ ofMask (decC b) (decF b) = maskR (decF b) ∧ decA b = 4 ∧ decX b = 0 ∧ decS b = sizeR (decF b) ∧ decK b = decide (b.getD 3 0 = (if decH b = true then 2 else 1) * sizeR (decF b)) := by
  have hl := law8 (decF b)
  have hz : ofSize (decC b) (decF b) = sizeR (decF b) := by unfold ofSize; rw [if_neg (by omega)]; exact hl.2.1
  have he : ofExtra (decC b) = false := decide_eq_false (by omega)
  refine ⟨?_, ?_, if_neg (by omega), if_neg (by omega), ?_, ?_⟩
  · unfold ofOk; rw [if_neg (by omega), decide_eq_true hc, Bool.and_true]
  · unfold ofMask; rw [if_neg (by omega)]; exact hl.2.2
  · unfold decS longS; rw [he, hz]; rfl
  · unfold decK longK; rw [he, hz]; rfl
theorem kE {b : List Int} (hc : decC b = 65535) (hf : 0 ≤ decF b ∧ decF b ≤ 127) : ofOk (decC b) (decF b) = true ∧ ofMask (decC b) (decF b) = true ∧ decA b = 8 ∧ decX b = numL ((b.drop 4).take 4) ∧ decS b = (b.getD 3 0 - 4).tdiv (if decH b = true then 2 else 1) ∧ decK b = (decide (0 ≤ b.getD 3 0 - 4) && decide ((b.getD 3 0 - 4).tmod (if decH b = true then 2 else 1) = 0) && decide ((b.getD 3 0 - 4).tdiv (if decH b = true then 2 else 1) ≤ 100)) := by
  have hz : ofSize (decC b) (decF b) = 100 := if_pos hc
  have he : ofExtra (decC b) = true := decide_eq_true hc
  refine ⟨?_, if_pos hc, if_pos hc, if_pos hc, ?_, ?_⟩
  · unfold ofOk; rw [if_pos hc, decide_eq_true hf.1, decide_eq_true hf.2]; rfl
  · unfold decS longS; rw [he]; rfl
  · unfold decK longK; rw [he, hz]; rfl
theorem rE_ok {b : List Int} (h4 : ¬ b.length < 4) (hok : ofOk (decC b) (decF b) = true) (hm : decH b = true → ofMask (decC b) (decF b) = true) (hk : decK b = true) (hl : ¬ (b.length : Int) - 4 < b.getD 3 0) : rE b = refW (decC b) (decF b) (decH b) (decV b) (decM b) := by
  unfold rE
  rw [if_neg h4, if_neg (by rw [hok]; decide), if_neg (fun h => by rw [hm h.1] at h; exact absurd h.2 (by decide)), if_neg (fun h => h.elim (by rw [hk]; decide) hl)]
theorem rE_len {b : List Int} (h4 : ¬ b.length < 4) (hok : ofOk (decC b) (decF b) = true) (hm : decH b = true → ofMask (decC b) (decF b) = true) (hk : decK b = false ∨ (b.length : Int) - 4 < b.getD 3 0) : rE b = 1026 := by
  unfold rE
  rw [if_neg h4, if_neg (by rw [hok]; decide), if_neg (fun h => by rw [hm h.1] at h; exact absurd h.2 (by decide)), if_pos hk]
def ir_r08_Decode : IR :=
(.seq
(.keep [0]
(.reg (oD 2 (.box [.int .i64 0, .int .i64 0, .kb false, .int .u64 0, .imm (.int .u8) [], .imm (.int .u8) []]) ::
oD 3 (.mov (cI 0)) ::
oD 4 (.mov (cI 0)) ::
[])))
(.seq
(.seq
(.reg (oM 13 0 ::
oD 14 (.len (.t 13)) ::
oD 15 (.bin .lss (.t 14) (cI 4)) ::
[]))
(.cond (.t 15)
(.seq
(.keep [2]
(.reg (oD 16 (.build [.int .i64 0, .int .i64 0, .kb false, .int .u64 0, .imm (.int .u8) [], .imm (.int .u8) []] []) ::
oN (.store 6 (.t 2) (.t 16)) ::
oD 3 (.mov (cI 0)) ::
oD 4 (.mov (cI 1026)) ::
[])))
.ret)
.skip))
(.seq
(.keep [0, 2]
(.regD ((oM 17 0, []) ::
(oD 18 (.slice 1 (.t 17) none (some (cI 2)) none), []) ::
(oD 19 (.call false (.f 68) [(.t 18)]), []) ::
(oD 20 (.conv .i64 (.t 19)), []) ::
(oM 21 0, [0, 0, 0, 0]) ::
(oD 22 (.indexSl 1 (.t 21) (cI 2)), [1, 0, 0, 0]) ::
(oL 23 22, [2, 0, 0, 0]) ::
(oD 24 (.conv .i64 (.t 23)), [3, 0, 0, 0]) ::
(oD 25 (.bin .quo (.t 24) (cI 2)), [4, 0, 0, 0]) ::
(oM 26 0, [0, 0, 0, 0, 0, 0, 0, 0, 0]) ::
(oD 27 (.indexSl 1 (.t 26) (cI 2)), [1, 0, 0, 0, 0, 0, 0, 0, 0]) ::
(oL 28 27, [2, 0, 0, 0, 0, 0, 0, 0, 0]) ::
(oD 29 (.bin .rem (.t 28) (.c (.int .u8 2))), [3, 0, 0, 0, 0, 0, 0, 0, 0]) ::
(oD 30 (.bin .eql (.t 29) (.c (.int .u8 1))), [4, 0, 0, 0, 0, 0, 0, 0, 0]) ::
(oD 31 (.build [.int .i64 0, .int .i64 0, .kb false, .int .u64 0, .imm (.int .u8) [], .imm (.int .u8) []] [(0, 1, (.t 20)), (1, 1, (.t 25)), (2, 1, (.t 30))]), []) ::
(oD 5 (.box [.int .i64 0, .int .i64 0, .kb false, .int .u64 0, .imm (.int .u8) [], .imm (.int .u8) []]), [0, 0, 0, 0, 0, 0, 0, 0, 0, 0, 0, 0, 0, 0, 0]) ::
(oN (.store 6 (.t 5) (.t 31)), []) ::
[])))
(.seq
(.keep [0, 2, 5]
(.reg (oM 32 0 ::
oD 33 (.indexSl 1 (.t 32) (cI 3)) ::
oL 34 33 ::
oD 35 (.conv .i64 (.t 34)) ::
oM 6 35 ::
[])))
(.seq
(.keep [0, 2, 5, 6]
(.reg (oD 37 (.fieldAddr 1 (.t 5)) ::
oL 38 37 ::
oD 39 (.call false (.f 250) [(.t 38)]) ::
oM 36 39 ::
oD 40 (.extract (.t 36) 0) ::
oD 41 (.extract (.t 36) 1) ::
oD 7 (.box [.str [], .int .i64 0, .int .i64 0, .kb false, .int .i64 0, .imm (.int .u64) []]) ::
oN (.store 6 (.t 7) (.t 40)) ::
oM 8 41 ::
[])))
(.seq
(.seq
(.keep [0, 2, 5, 6, 7, 8]
(.reg (oD 42 (.fieldAddr 0 (.t 5)) ::
oL 43 42 ::
oD 44 (.bin .neq (.t 43) (cI 32768)) ::
oM 45 44 ::
oT 45 46 (.fieldAddr 0 (.t 5)) ::
oT 45 47 (.load none (.t 46)) ::
oT 45 48 (.bin .neq (.t 47) (cI 65535)) ::
oD 49 (.pick (.t 45) (.t 48) cF) ::
oM 50 49 ::
oF 50 51 (.fieldAddr 0 (.t 5)) ::
oF 50 52 (.load none (.t 51)) ::
oF 50 53 (.bin .eql (.t 52) (cI 32768)) ::
oF 50 54 (.mov (.t 53)) ::
oT 54 55 (.mov (.t 8)) ::
oT 54 56 (.un .not (.t 55)) ::
oF 50 57 (.pick (.t 54) (.t 56) cF) ::
oD 58 (.pick (.t 50) cT (.t 57)) ::
[])))
(.cond (.t 58)
(.seq
(.keep [2]
(.reg (oD 59 (.build [.int .i64 0, .int .i64 0, .kb false, .int .u64 0, .imm (.int .u8) [], .imm (.int .u8) []] []) ::
oN (.store 6 (.t 2) (.t 59)) ::
oD 3 (.mov (cI 0)) ::
oD 4 (.mov (cI 1031)) ::
[])))
.ret)
.skip))
(.seq
(.keep [0, 2, 5, 6, 7]
(.reg (oD 9 (.mov (cI 1)) ::
[])))
(.seq
(.seq
(.reg (oD 60 (.fieldAddr 2 (.t 5)) ::
oL 61 60 ::
[]))
(.cond (.t 61)
(.reg (oD 9 (.mov (cI 2)) ::
[]))
.skip))
(.seq
(.seq
(.keep [0, 2, 5, 6, 7, 9]
(.reg (oD 62 (.fieldAddr 0 (.t 5)) ::
oL 63 62 ::
oD 64 (.bin .eql (.t 63) (cI 32768)) ::
oM 65 64 ::
oT 65 66 (.fieldAddr 2 (.t 5)) ::
oT 65 67 (.load none (.t 66)) ::
oD 68 (.pick (.t 65) (.t 67) cF) ::
oM 69 68 ::
oT 69 70 (.fieldAddr 3 (.t 7)) ::
oT 69 71 (.load none (.t 70)) ::
oT 69 72 (.un .not (.t 71)) ::
oD 73 (.pick (.t 69) (.t 72) cF) ::
[])))
(.cond (.t 73)
(.seq
(.keep [2]
(.reg (oD 74 (.build [.int .i64 0, .int .i64 0, .kb false, .int .u64 0, .imm (.int .u8) [], .imm (.int .u8) []] []) ::
oN (.store 6 (.t 2) (.t 74)) ::
oD 3 (.mov (cI 0)) ::
oD 4 (.mov (cI 1033)) ::
[])))
.ret)
.skip))
(.seq
(.keep [0, 2, 5, 6, 7, 9]
(.reg (oD 10 (.mov (cI 4)) ::
[])))
(.seq
(.seq
(.reg (oD 75 (.fieldAddr 0 (.t 5)) ::
oL 76 75 ::
oD 77 (.bin .eql (.t 76) (cI 32768)) ::
[]))
(.cond (.t 77)
(.seq
(.keep [0, 2, 5, 6, 7, 9, 10]
(.reg (oM 78 6 ::
oM 79 9 ::
oD 80 (.fieldAddr 2 (.t 7)) ::
oL 81 80 ::
oD 82 (.bin .mul (.t 79) (.t 81)) ::
oD 83 (.bin .neq (.t 78) (.t 82)) ::
[])))
(.cond (.t 83)
(.seq
(.keep [2]
(.reg (oD 84 (.build [.int .i64 0, .int .i64 0, .kb false, .int .u64 0, .imm (.int .u8) [], .imm (.int .u8) []] []) ::
oN (.store 6 (.t 2) (.t 84)) ::
oD 3 (.mov (cI 0)) ::
oD 4 (.mov (cI 1026)) ::
[])))
.ret)
.skip))
(.seq
(.reg (oD 10 (.mov (cI 8)) ::
[]))
(.seq
(.keep [0, 2, 5, 6, 9, 10]
(.reg (oM 85 6 ::
oD 86 (.bin .lss (.t 85) (cI 4)) ::
oM 87 86 ::
oF 87 88 (.mov (.t 6)) ::
oF 87 89 (.bin .sub (.t 88) (cI 4)) ::
oF 87 90 (.mov (.t 9)) ::
oF 87 91 (.bin .rem (.t 89) (.t 90)) ::
oF 87 92 (.bin .neq (.t 91) (cI 0)) ::
oD 93 (.pick (.t 87) cT (.t 92)) ::
oM 94 93 ::
oF 94 95 (.mov (.t 6)) ::
oF 94 96 (.bin .sub (.t 95) (cI 4)) ::
oF 94 97 (.mov (.t 9)) ::
oF 94 98 (.bin .mul (cI 100) (.t 97)) ::
oF 94 99 (.bin .gtr (.t 96) (.t 98)) ::
oD 100 (.pick (.t 94) cT (.t 99)) ::
[])))
(.cond (.t 100)
(.seq
(.keep [2]
(.reg (oD 101 (.build [.int .i64 0, .int .i64 0, .kb false, .int .u64 0, .imm (.int .u8) [], .imm (.int .u8) []] []) ::
oN (.store 6 (.t 2) (.t 101)) ::
oD 3 (.mov (cI 0)) ::
oD 4 (.mov (cI 1026)) ::
[])))
.ret)
.skip)))))
(.seq
(.seq
(.keep [0, 2, 5, 6, 9, 10]
(.reg (oM 102 0 ::
oD 103 (.len (.t 102)) ::
oM 104 6 ::
oD 105 (.bin .add (cI 4) (.t 104)) ::
oD 106 (.bin .lss (.t 103) (.t 105)) ::
[])))
(.cond (.t 106)
(.seq
(.reg (oD 107 (.build [.int .i64 0, .int .i64 0, .kb false, .int .u64 0, .imm (.int .u8) [], .imm (.int .u8) []] []) ::
oN (.store 6 (.t 2) (.t 107)) ::
oD 3 (.mov (cI 0)) ::
oD 4 (.mov (cI 1026)) ::
[]))
.ret)
.skip))
(.seq
(.seq
(.keep [0, 2, 5, 6, 9, 10]
(.reg (oD 108 (.fieldAddr 0 (.t 5)) ::
oL 109 108 ::
oD 110 (.bin .eql (.t 109) (cI 65535)) ::
[])))
(.cond (.t 110)
(.reg (oM 111 0 ::
oD 112 (.slice 1 (.t 111) (some (cI 4)) (some (cI 8)) none) ::
oD 113 (.call false (.f 68) [(.t 112)]) ::
oD 114 (.fieldAddr 3 (.t 5)) ::
oN (.store 1 (.t 114) (.t 113)) ::
[]))
.skip))
(.seq
(.keep [0, 2, 5, 6, 9, 10]
(.reg (oM 115 6 ::
oD 116 (.bin .add (cI 4) (.t 115)) ::
oM 117 10 ::
oD 118 (.bin .sub (.t 116) (.t 117)) ::
oM 119 9 ::
oD 120 (.bin .quo (.t 118) (.t 119)) ::
oM 11 120 ::
[])))
(.seq
(.keep [0, 2, 5, 6, 10, 11]
(.reg (oD 121 (.slice0 (.int .u8)) ::
oM 122 0 ::
oM 123 10 ::
oM 124 10 ::
oM 125 11 ::
oD 126 (.bin .add (.t 124) (.t 125)) ::
oD 127 (.slice 1 (.t 122) (some (.t 123)) (some (.t 126)) none) ::
oD 128 (.append (.int .u8) 1 (.t 121) (.t 127)) ::
oD 129 (.fieldAddr 4 (.t 5)) ::
oN (.store 1 (.t 129) (.t 128)) ::
[])))
(.seq
(.seq
(.keep [0, 2, 5, 6, 10, 11]
(.reg (oD 130 (.fieldAddr 2 (.t 5)) ::
oL 131 130 ::
[])))
(.cond (.t 131)
(.keep [0, 2, 5, 6, 10, 11]
(.reg (oD 132 (.slice0 (.int .u8)) ::
oM 133 0 ::
oM 134 10 ::
oM 135 11 ::
oD 136 (.bin .add (.t 134) (.t 135)) ::
oM 137 6 ::
oD 138 (.bin .add (cI 4) (.t 137)) ::
oD 139 (.slice 1 (.t 133) (some (.t 136)) (some (.t 138)) none) ::
oD 140 (.append (.int .u8) 1 (.t 132) (.t 139)) ::
oD 141 (.fieldAddr 5 (.t 5)) ::
oN (.store 1 (.t 141) (.t 140)) ::
[])))
.skip))
(.seq
(.seq
(.keep [2, 5, 6]
(.reg (oD 142 (.load (some 6) (.t 5)) ::
oD 143 (.call false (.f 251) [(.t 142)]) ::
oM 12 143 ::
[])))
(.seq
(.reg (oM 144 12 ::
oD 145 (.bin .neq (.t 144) (cI 0)) ::
[]))
(.cond (.t 145)
(.seq
(.reg (oD 146 (.build [.int .i64 0, .int .i64 0, .kb false, .int .u64 0, .imm (.int .u8) [], .imm (.int .u8) []] []) ::
oM 147 12 ::
oN (.store 6 (.t 2) (.t 146)) ::
oD 3 (.mov (cI 0)) ::
oM 4 147 ::
[]))
.ret)
.skip)))
(.seq
(.keep [2, 5, 6]
(.reg (oD 148 (.load (some 6) (.t 5)) ::
oM 149 6 ::
oD 150 (.bin .add (cI 4) (.t 149)) ::
oN (.store 6 (.t 2) (.t 148)) ::
oM 3 150 ::
oD 4 (.mov (cI 0)) ::
[])))
.ret))))))))))))))))))
def rd_r08_Decode : List RD := [.cell 2 (some 6) true [], .tmp 3 true none, .tmp 4 true none]
theorem ok_r08_Decode : fnOk Tryz.prog Tryz.f215 ir_r08_Decode rd_r08_Decode = true := by kernel_rfl
def S_r08_Decode : List AV → List Obj → Option (Prop × AV)
  | [.imm (.int .u8) b], [] => some ((b.length ≤ 1000000, .tup [.agg [.int .i64 (rI b (decC b)), .int .i64 (rI b (decF b)), .bool ((if rE b = 0 then decH b else false)), .int .u64 (rI b (decX b)), .imm (.int .u8) (rR b (decV b)), .imm (.int .u8) (rR b (decM b))], .int .i64 (rI b (decN b)), .int .i64 (rE b)]))
  | _, _ => none
theorem snd_r08_Decode : SoundS Tryz.prog 215 (RoF S_r08_Decode).sum := by
  refine ro_fn Tryz.func215 ok_r08_Decode (env_cons (s := RoF S_r01_Value) snd_r01_Value (env_cons (s := RoF S_r07_Of) snd_r07_Of (env_cons (s := RoF S_r08_Wrong) snd_r08_Wrong (env_nil _)))) fun args objs p v e => ?_
  unfold S_r08_Decode at e
  split at e
  · rename_i b
    cases e
    refine ⟨rfl, fun hw ho hp => ?_⟩
    change List Int at b
    have hb : ∀ x ∈ b, 0 ≤ x ∧ x ≤ 255 := fun x hx => (hw (.imm (.int .u8) b) (by simp)).1 x hx
    by_cases h4 : b.length < 4
    · have hd : rE b = 1026 := by unfold rE; rw [if_pos h4]
      repeat' (intro t ht; first | (cases t <;> first | (cases ht; done) | ((try simp only [bn_s] at ht); (try simp only [nd_s] at ht); (try (exfalso; first | contradiction | omega)))) | (refine ht ?_ ?_ <;> clear ht) | (refine ht.1 ?_ ?_ <;> clear ht) | (refine ht ?_; clear ht))
      all_goals first
        | ((try simp only [nd_s, bn_s, mm_s] at *); omega)
        | (simp only [rI, rR, hd]; exact ⟨rfl, by first | rfl | exact True.intro⟩)
        | (exfalso; omega)
        | trace_state
    · have hC := two_le hb
      have hq := bytes_le hb 2
      have hn := bytes_le hb 3
      have hFl := decF_le hq
      have hz := sizeR_le (decF b)
      have fC : numL (List.take (Int.toNat 2) b) = decC b := rfl
      have g2 : b.getD (Int.toNat 2) (Ty.int IntKind.u8).dflt = b.getD 2 0 := rfl
      have g2' : b.getD (Int.toNat 2) 0 = b.getD 2 0 := rfl
      have g3 : b.getD (Int.toNat 3) (Ty.int IntKind.u8).dflt = b.getD 3 0 := rfl
      have g3' : b.getD (Int.toNat 3) 0 = b.getD 3 0 := rfl
      have hF : (b.getD 2 0).tdiv 2 = decF b := rfl
      have hH : ((b.getD 2 0).tmod 2 = 1) = (decH b = true) := propext ⟨fun h => decide_eq_true h, fun h => of_decide_eq_true h⟩
      have s4 : 4 + b.getD 3 0 - 4 = b.getD 3 0 := by omega
      have s8 : 4 + b.getD 3 0 - 8 = b.getD 3 0 - 4 := by omega
      have t1 : (b.getD 3 0).tdiv 1 = b.getD 3 0 := Int.tdiv_one _
      have t2 : (b.getD 3 0 - 4).tdiv 1 = b.getD 3 0 - 4 := Int.tdiv_one _
      have t3 : 0 ≤ (b.getD 3 0).tdiv 2 ∧ (b.getD 3 0).tdiv 2 ≤ 255 := by rw [tdiv_nn hn.1]; omega
      have hHd : decH b = decide ((b.getD (Int.toNat 2) 0).tmod 2 = 1) := rfl
      have hFd : decF b = (b.getD (Int.toNat 2) 0).tdiv 2 := rfl
      have hml := hH
      by_cases hcb : numL (List.take (Int.toNat 2) b) = 32768
      · obtain ⟨k1, k2, k3, k4, k5, k6⟩ := kB (b := b) hcb
        cases hi : fIs ((b.getD (Int.toNat 2) 0).tdiv 2) with
        | false =>
          have hi' : ¬ fIs ((b.getD (Int.toNat 2) 0).tdiv 2) = true := by rw [hi]; decide
          have hd : rE b = 1031 := by unfold rE; rw [if_neg h4, if_pos (k1.trans hi)]
          repeat' (intro t ht; first | (cases t <;> first | (cases ht; done) | ((try simp only [bn_s] at ht); (try simp only [nd_s] at ht); (try (exfalso; first | contradiction | omega)))) | (refine ht ?_ ?_ <;> clear ht) | (refine ht.1 ?_ ?_ <;> clear ht) | (refine ht ?_; clear ht))
          all_goals (try simp only [fC, g2, g2', g3, g3', hF, hH, Bool.decide_eq_true, Int.one_mul, List.nil_append, cast_rfl, s4, s8] at *)
          all_goals first
            | exact True.intro
            | exact (by decide)
            | omega
            | ((try simp only [nd_s, bn_s, mm_s] at *); omega)
            | (simp only [List.length_append, List.length_nil, List.length_drop, List.length_take]; omega)
            | (rw [List.length_take]; omega)
            | (simp only [rI, rR, hd]; exact ⟨rfl, by first | rfl | exact True.intro⟩)
            | trace_state
        | true =>
          have hi' : ¬ fIs ((b.getD (Int.toNat 2) 0).tdiv 2) = false := by rw [hi]; decide
          have hok := k1.trans hi
          by_cases hh' : (b.getD (Int.toNat 2) 0).tmod 2 = 1
          · have hh : decH b = true := decide_eq_true hh'
            cases hmk : maskR ((b.getD (Int.toNat 2) 0).tdiv 2) with
            | false =>
              have hmk' : ¬ maskR ((b.getD (Int.toNat 2) 0).tdiv 2) = true := by rw [hmk]; decide
              have hd : rE b = 1033 := by unfold rE; rw [if_neg h4, if_neg (by rw [hok]; decide), if_pos ⟨hh, k2.trans hmk⟩]
              repeat' (intro t ht; first | (cases t <;> first | (cases ht; done) | ((try simp only [bn_s] at ht); (try simp only [nd_s] at ht); (try (exfalso; first | contradiction | omega)))) | (refine ht ?_ ?_ <;> clear ht) | (refine ht.1 ?_ ?_ <;> clear ht) | (refine ht ?_; clear ht))
              all_goals (try simp only [fC, g2, g2', g3, g3', hF, hH, Bool.decide_eq_true, Int.one_mul, List.nil_append, cast_rfl, s4, s8] at *)
              all_goals first
                | exact True.intro
                | exact (by decide)
                | omega
                | ((try simp only [nd_s, bn_s, mm_s] at *); omega)
                | (simp only [List.length_append, List.length_nil, List.length_drop, List.length_take]; omega)
                | (rw [List.length_take]; omega)
                | (simp only [rI, rR, hd]; exact ⟨rfl, by first | rfl | exact True.intro⟩)
                | trace_state
            | true =>
              have hmk' : ¬ maskR ((b.getD (Int.toNat 2) 0).tdiv 2) = false := by rw [hmk]; decide
              by_cases hs : b.getD (Int.toNat 3) 0 = 2 * sizeR ((b.getD (Int.toNat 2) 0).tdiv 2) ∧ 4 + b.getD (Int.toNat 3) 0 ≤ b.length
              · have hs1 : b.getD 3 0 = 2 * sizeR (decF b) := hs.1
                have hs2 : 4 + b.getD 3 0 ≤ b.length := hs.2
                have hK : decK b = true := by rw [k6, hh]; exact decide_eq_true hs1
                have hd := rE_ok h4 hok (fun _ => k2.trans hmk) hK (by omega)
                have hXX := k4
                have hX : (b.getD 3 0).tdiv 2 = decS b := by rw [k5, hs1, tdiv_nn (by omega)]; omega
                have hV : (b.take (4 + decS b).toNat).drop (Int.toNat 4) = decV b := by unfold decV; rw [k3]
                have hN : decN b = 4 + b.getD 3 0 := by unfold decN; rw [hh, k3, k5, hs1, if_pos rfl]; omega
                have hM : (b.take (4 + b.getD 3 0).toNat).drop (4 + decS b).toNat = decM b := by unfold decM; rw [hh, k3, if_pos rfl, show 4 + b.getD 3 0 = 4 + decS b + decS b by rw [k5, hs1]; omega]
                have hVl : ((decV b).length : Int) = decS b := by rw [← hV]; exact drop_take_len (by decide) (by omega) (by omega)
                have hMl : ((decM b).length : Int) = decS b := by
                  have := drop_take_len (b := b) (p := 4 + decS b) (n := decS b) (by omega) (by omega) (by omega)
                  rw [← hM, show 4 + b.getD 3 0 = 4 + decS b + decS b by rw [k5, hs1]; omega]; exact this
                have hMv : (decM b).length = (decV b).length := by omega
                rw [hh] at hd
                repeat' (intro t ht; first | (cases t <;> first | (cases ht; done) | ((try simp only [bn_s] at ht); (try simp only [nd_s] at ht); (try (exfalso; first | contradiction | omega)))) | (refine ht ?_ ?_ <;> clear ht) | (refine ht.1 ?_ ?_ <;> clear ht) | (refine ht ?_; clear ht))
                all_goals (try simp only [fC, g2, g2', g3, g3', hF, hH, Bool.decide_eq_true, Int.one_mul, List.nil_append, cast_rfl, s4, s8] at *)
                all_goals (try simp only [hh, hX, hV, hM, hMv] at *)
                all_goals first
                  | exact True.intro
                  | exact (by decide)
                  | omega
                  | ((try simp only [nd_s, bn_s, mm_s] at *); omega)
                  | (simp only [List.length_append, List.length_nil, List.length_drop, List.length_take]; omega)
                  | (rw [List.length_take]; omega)
                  | (refine ⟨fun h1 h2 => ?_, ?_⟩ <;> first | omega | (simp only [List.length_nil]; omega) | contradiction | (exfalso; omega) | (cases h1; done))
                  | (have h0 : rE b = 0 := hd.trans (by assumption)
                     refine ⟨?_, by first | rfl | exact True.intro⟩; first | (simp only [rI, rR, if_pos h0, h0, ite_self, hXX, hN, if_true]; done) | (simp only [rI, rR, if_pos h0, h0, ite_self, hXX, hN, if_true]; rfl))
                  | (have h0 : ¬ rE b = 0 := by rw [hd]; assumption
                     refine ⟨?_, by first | rfl | exact True.intro⟩; simp only [rI, rR, if_neg h0, ite_self]; rw [hd])
                  | trace_state
              · have hd := rE_len h4 hok (fun _ => k2.trans hmk) (by
                  by_cases hk : b.getD 3 0 = 2 * sizeR (decF b)
                  · right; have : ¬ 4 + b.getD 3 0 ≤ (b.length : Int) := fun h => hs ⟨hk, h⟩
                    omega
                  · left; rw [k6, hh]; exact decide_eq_false hk)
                repeat' (intro t ht; first | (cases t <;> first | (cases ht; done) | ((try simp only [bn_s] at ht); (try simp only [nd_s] at ht); (try (exfalso; first | contradiction | omega)))) | (refine ht ?_ ?_ <;> clear ht) | (refine ht.1 ?_ ?_ <;> clear ht) | (refine ht ?_; clear ht))
                all_goals (try simp only [fC, g2, g2', g3, g3', hF, hH, Bool.decide_eq_true, Int.one_mul, List.nil_append, cast_rfl, s4, s8] at *)
                all_goals first
                  | exact True.intro
                  | exact (by decide)
                  | omega
                  | ((try simp only [nd_s, bn_s, mm_s] at *); omega)
                  | (simp only [List.length_append, List.length_nil, List.length_drop, List.length_take]; omega)
                  | (rw [List.length_take]; omega)
                  | (simp only [rI, rR, hd]; exact ⟨rfl, by first | rfl | exact True.intro⟩)
                  | trace_state
          · have hh : decH b = false := decide_eq_false hh'
            by_cases hs : b.getD (Int.toNat 3) 0 = 1 * sizeR ((b.getD (Int.toNat 2) 0).tdiv 2) ∧ 4 + b.getD (Int.toNat 3) 0 ≤ b.length
            · have hs1 : b.getD 3 0 = 1 * sizeR (decF b) := hs.1
              have hs2 : 4 + b.getD 3 0 ≤ b.length := hs.2
              have hK : decK b = true := by rw [k6, hh]; exact decide_eq_true hs1
              have hd := rE_ok h4 hok (fun h => absurd h (by rw [hh]; decide)) hK (by omega)
              have hXX := k4
              have hX : (b.getD 3 0).tdiv 1 = decS b := by rw [k5, t1, hs1]; omega
              have hV : (b.take (4 + decS b).toNat).drop (Int.toNat 4) = decV b := by unfold decV; rw [k3]
              have hN : decN b = 4 + b.getD 3 0 := by unfold decN; rw [hh, k3, k5, hs1, if_neg (by decide)]; omega
              have hM : decM b = [] := by unfold decM; rw [hh]; rfl
              have hVl : ((decV b).length : Int) = decS b := by rw [← hV]; exact drop_take_len (by decide) (by omega) (by omega)
              rw [hh, hM] at hd
              repeat' (intro t ht; first | (cases t <;> first | (cases ht; done) | ((try simp only [bn_s] at ht); (try simp only [nd_s] at ht); (try (exfalso; first | contradiction | omega)))) | (refine ht ?_ ?_ <;> clear ht) | (refine ht.1 ?_ ?_ <;> clear ht) | (refine ht ?_; clear ht))
              all_goals (try simp only [fC, g2, g2', g3, g3', hF, hH, Bool.decide_eq_true, Int.one_mul, List.nil_append, cast_rfl, s4, s8] at *)
              all_goals (try simp only [hh, hX, hV, hM] at *)
              all_goals first
                | exact True.intro
                | exact (by decide)
                | omega
                | ((try simp only [nd_s, bn_s, mm_s] at *); omega)
                | (simp only [List.length_append, List.length_nil, List.length_drop, List.length_take]; omega)
                | (rw [List.length_take]; omega)
                | (refine ⟨fun h1 h2 => ?_, ?_⟩ <;> first | omega | (simp only [List.length_nil]; omega) | contradiction | (exfalso; omega) | (cases h1; done))
                | (have h0 : rE b = 0 := hd.trans (by assumption)
                   refine ⟨?_, by first | rfl | exact True.intro⟩; first | (simp only [rI, rR, if_pos h0, h0, ite_self, hXX, hN, if_true, hM]; done) | (simp only [rI, rR, if_pos h0, h0, ite_self, hXX, hN, if_true, hM]; rfl))
                | (have h0 : ¬ rE b = 0 := by rw [hd]; assumption
                   refine ⟨?_, by first | rfl | exact True.intro⟩; simp only [rI, rR, if_neg h0, ite_self]; rw [hd])
                | trace_state
            · have hd := rE_len h4 hok (fun h => absurd h (by rw [hh]; decide)) (by
                by_cases hk : b.getD 3 0 = 1 * sizeR (decF b)
                · right; have : ¬ 4 + b.getD 3 0 ≤ (b.length : Int) := fun h => hs ⟨hk, h⟩
                  omega
                · left; rw [k6, hh]; exact decide_eq_false hk)
              repeat' (intro t ht; first | (cases t <;> first | (cases ht; done) | ((try simp only [bn_s] at ht); (try simp only [nd_s] at ht); (try (exfalso; first | contradiction | omega)))) | (refine ht ?_ ?_ <;> clear ht) | (refine ht.1 ?_ ?_ <;> clear ht) | (refine ht ?_; clear ht))
              all_goals (try simp only [fC, g2, g2', g3, g3', hF, hH, Bool.decide_eq_true, Int.one_mul, List.nil_append, cast_rfl, s4, s8] at *)
              all_goals first
                | exact True.intro
                | exact (by decide)
                | omega
                | ((try simp only [nd_s, bn_s, mm_s] at *); omega)
                | (simp only [List.length_append, List.length_nil, List.length_drop, List.length_take]; omega)
                | (rw [List.length_take]; omega)
                | (simp only [rI, rR, hd]; exact ⟨rfl, by first | rfl | exact True.intro⟩)
                | trace_state
      · by_cases hce : numL (List.take (Int.toNat 2) b) = 65535
        · obtain ⟨k1, k2, k3, k4, k5, k6⟩ := kE (b := b) hce hFl
          have hok := k1
          by_cases hh' : (b.getD (Int.toNat 2) 0).tmod 2 = 1
          · have hh : decH b = true := decide_eq_true hh'
            by_cases hs : (4 ≤ b.getD (Int.toNat 3) 0 ∧ (b.getD (Int.toNat 3) 0 - 4).tmod 2 = 0 ∧ b.getD (Int.toNat 3) 0 - 4 ≤ 200) ∧ 4 + b.getD (Int.toNat 3) 0 ≤ b.length
            · have hs1 : 4 ≤ b.getD 3 0 ∧ (b.getD 3 0 - 4).tmod 2 = 0 ∧ b.getD 3 0 - 4 ≤ 200 := hs.1
              have hs2 : 4 + b.getD 3 0 ≤ b.length := hs.2
              have hs3 := hs1.2.1
              rw [tmod_nn (by omega)] at hs3
              have hX : (b.getD 3 0 - 4).tdiv 2 = decS b := by rw [k5, hh]; rfl
              have hX2 : decS b = (b.getD 3 0 - 4) / 2 := by rw [← hX, tdiv_nn (by omega)]
              have hK : decK b = true := by
                rw [k6, hh]
                simp only [if_true, Bool.and_eq_true, decide_eq_true_eq]
                rw [hX]; exact ⟨⟨by omega, hs1.2.1⟩, by omega⟩
              have hd := rE_ok h4 hok (fun _ => k2) hK (by omega)
              have hXX : numL (List.drop (Int.toNat 4) (List.take (Int.toNat 8) b)) = decX b := by rw [k4]; congr 1; show (b.take (4 + 4)).drop 4 = (b.drop 4).take 4; exact List.take_drop.symm
              have hV : (b.take (8 + decS b).toNat).drop (Int.toNat 8) = decV b := by unfold decV; rw [k3]
              have hN : decN b = 4 + b.getD 3 0 := by unfold decN; rw [hh, k3, if_pos rfl]; omega
              have hM : (b.take (4 + b.getD 3 0).toNat).drop (8 + decS b).toNat = decM b := by unfold decM; rw [hh, k3, if_pos rfl, show 4 + b.getD 3 0 = 8 + decS b + decS b by omega]
              have hVl : ((decV b).length : Int) = decS b := by rw [← hV]; exact drop_take_len (by decide) (by omega) (by omega)
              have hMl : ((decM b).length : Int) = decS b := by
                have := drop_take_len (b := b) (p := 8 + decS b) (n := decS b) (by omega) (by omega) (by omega)
                rw [← hM, show 4 + b.getD 3 0 = 8 + decS b + decS b by omega]; exact this
              have hMv : (decM b).length = (decV b).length := by omega
              rw [hh] at hd
              repeat' (intro t ht; first | (cases t <;> first | (cases ht; done) | ((try simp only [bn_s] at ht); (try simp only [nd_s] at ht); (try (exfalso; first | contradiction | omega)))) | (refine ht ?_ ?_ <;> clear ht) | (refine ht.1 ?_ ?_ <;> clear ht) | (refine ht ?_; clear ht))
              all_goals (try simp only [fC, g2, g2', g3, g3', hF, hH, Bool.decide_eq_true, Int.one_mul, List.nil_append, cast_rfl, s4, s8] at *)
              all_goals (try simp only [hh, hX, hV, hM, hMv] at *)
              all_goals first
                | exact True.intro
                | exact (by decide)
                | omega
                | ((try simp only [nd_s, bn_s, mm_s] at *); omega)
                | (simp only [List.length_append, List.length_nil, List.length_drop, List.length_take]; omega)
                | (rw [List.length_take]; omega)
                | (refine ⟨fun h1 h2 => ?_, ?_⟩ <;> first | omega | (simp only [List.length_nil]; omega) | contradiction | (exfalso; omega) | (cases h1; done))
                | (have h0 : rE b = 0 := hd.trans (by assumption)
                   refine ⟨?_, by first | rfl | exact True.intro⟩; first | (simp only [rI, rR, if_pos h0, h0, ite_self, hXX, hN, if_true]; done) | (simp only [rI, rR, if_pos h0, h0, ite_self, hXX, hN, if_true]; rfl))
                | (have h0 : ¬ rE b = 0 := by rw [hd]; assumption
                   refine ⟨?_, by first | rfl | exact True.intro⟩; simp only [rI, rR, if_neg h0, ite_self]; rw [hd])
                | trace_state
            · have hd := rE_len h4 hok (fun _ => k2) (by
                by_cases hl : 4 + b.getD 3 0 ≤ (b.length : Int)
                · left
                  rw [k6, hh]
                  cases hkk : (decide (0 ≤ b.getD 3 0 - 4) && decide ((b.getD 3 0 - 4).tmod (if true = true then 2 else 1) = 0) && decide ((b.getD 3 0 - 4).tdiv (if true = true then 2 else 1) ≤ 100)) with
                  | false => rfl
                  | true =>
                    simp only [if_true, Bool.and_eq_true, decide_eq_true_eq] at hkk
                    have h1 := hkk.2
                    have h2 := hkk.1.2
                    rw [tdiv_nn hkk.1.1] at h1
                    rw [tmod_nn hkk.1.1] at h2
                    exact absurd ⟨⟨by have := hkk.1.1; show 4 ≤ b.getD 3 0; omega, hkk.1.2, by show b.getD 3 0 - 4 ≤ 200; omega⟩, hl⟩ hs
                · right; omega)
              repeat' (intro t ht; first | (cases t <;> first | (cases ht; done) | ((try simp only [bn_s] at ht); (try simp only [nd_s] at ht); (try (exfalso; first | contradiction | omega)))) | (refine ht ?_ ?_ <;> clear ht) | (refine ht.1 ?_ ?_ <;> clear ht) | (refine ht ?_; clear ht))
              all_goals (try simp only [fC, g2, g2', g3, g3', hF, hH, Bool.decide_eq_true, Int.one_mul, List.nil_append, cast_rfl, s4, s8] at *)
              all_goals first
                | exact True.intro
                | exact (by decide)
                | omega
                | ((try simp only [nd_s, bn_s, mm_s] at *); omega)
                | (simp only [List.length_append, List.length_nil, List.length_drop, List.length_take]; omega)
                | (rw [List.length_take]; omega)
                | (simp only [rI, rR, hd]; exact ⟨rfl, by first | rfl | exact True.intro⟩)
                | trace_state
          · have hh : decH b = false := decide_eq_false hh'
            by_cases hs : (4 ≤ b.getD (Int.toNat 3) 0 ∧ b.getD (Int.toNat 3) 0 - 4 ≤ 100) ∧ 4 + b.getD (Int.toNat 3) 0 ≤ b.length
            · have hs1 : 4 ≤ b.getD 3 0 ∧ b.getD 3 0 - 4 ≤ 100 := hs.1
              have hs2 : 4 + b.getD 3 0 ≤ b.length := hs.2
              have hX : (b.getD 3 0 - 4).tdiv 1 = decS b := by rw [k5, hh]; rfl
              have hX2 : decS b = b.getD 3 0 - 4 := by rw [← hX, t2]
              have t5 : (b.getD 3 0 - 4).tmod 1 = 0 := Int.tmod_one _
              have hK : decK b = true := by
                rw [k6, hh]
                simp only [if_false, Bool.false_eq_true, Bool.and_eq_true, decide_eq_true_eq]
                rw [hX]; exact ⟨⟨by omega, t5⟩, by omega⟩
              have hd := rE_ok h4 hok (fun h => absurd h (by rw [hh]; decide)) hK (by omega)
              have hXX : numL (List.drop (Int.toNat 4) (List.take (Int.toNat 8) b)) = decX b := by rw [k4]; congr 1; show (b.take (4 + 4)).drop 4 = (b.drop 4).take 4; exact List.take_drop.symm
              have hV : (b.take (8 + decS b).toNat).drop (Int.toNat 8) = decV b := by unfold decV; rw [k3]
              have hN : decN b = 4 + b.getD 3 0 := by unfold decN; rw [hh, k3, if_neg (by decide)]; omega
              have hM : decM b = [] := by unfold decM; rw [hh]; rfl
              have hVl : ((decV b).length : Int) = decS b := by rw [← hV]; exact drop_take_len (by decide) (by omega) (by omega)
              have hm1 : (b.getD (Int.toNat 3) 0 - 4).tmod 1 = 0 := t5
              rw [hh, hM] at hd
              repeat' (intro t ht; first | (cases t <;> first | (cases ht; done) | ((try simp only [bn_s] at ht); (try simp only [nd_s] at ht); (try (exfalso; first | contradiction | omega)))) | (refine ht ?_ ?_ <;> clear ht) | (refine ht.1 ?_ ?_ <;> clear ht) | (refine ht ?_; clear ht))
              all_goals (try simp only [fC, g2, g2', g3, g3', hF, hH, Bool.decide_eq_true, Int.one_mul, List.nil_append, cast_rfl, s4, s8] at *)
              all_goals (try simp only [hh, hX, hV, hM] at *)
              all_goals first
                | exact True.intro
                | exact (by decide)
                | omega
                | ((try simp only [nd_s, bn_s, mm_s] at *); omega)
                | (simp only [List.length_append, List.length_nil, List.length_drop, List.length_take]; omega)
                | (rw [List.length_take]; omega)
                | (refine ⟨fun h1 h2 => ?_, ?_⟩ <;> first | omega | (simp only [List.length_nil]; omega) | contradiction | (exfalso; omega) | (cases h1; done))
                | (have h0 : rE b = 0 := hd.trans (by assumption)
                   refine ⟨?_, by first | rfl | exact True.intro⟩; first | (simp only [rI, rR, if_pos h0, h0, ite_self, hXX, hN, if_true, hM]; done) | (simp only [rI, rR, if_pos h0, h0, ite_self, hXX, hN, if_true, hM]; rfl))
                | (have h0 : ¬ rE b = 0 := by rw [hd]; assumption
                   refine ⟨?_, by first | rfl | exact True.intro⟩; simp only [rI, rR, if_neg h0, ite_self]; rw [hd])
                | trace_state
            · have t5 : (b.getD (Int.toNat 3) 0 - 4).tmod 1 = 0 := Int.tmod_one _
              have hd := rE_len h4 hok (fun h => absurd h (by rw [hh]; decide)) (by
                by_cases hl : 4 + b.getD 3 0 ≤ (b.length : Int)
                · left
                  rw [k6, hh]
                  cases hkk : (decide (0 ≤ b.getD 3 0 - 4) && decide ((b.getD 3 0 - 4).tmod (if false = true then 2 else 1) = 0) && decide ((b.getD 3 0 - 4).tdiv (if false = true then 2 else 1) ≤ 100)) with
                  | false => rfl
                  | true =>
                    simp only [if_false, Bool.false_eq_true, Bool.and_eq_true, decide_eq_true_eq] at hkk
                    have h1 := hkk.2
                    rw [t2] at h1
                    exact absurd ⟨⟨by have := hkk.1.1; show 4 ≤ b.getD 3 0; omega, by show b.getD 3 0 - 4 ≤ 100; omega⟩, hl⟩ hs
                · right; omega)
              repeat' (intro t ht; first | (cases t <;> first | (cases ht; done) | ((try simp only [bn_s] at ht); (try simp only [nd_s] at ht); (try (exfalso; first | contradiction | omega)))) | (refine ht ?_ ?_ <;> clear ht) | (refine ht.1 ?_ ?_ <;> clear ht) | (refine ht ?_; clear ht))
              all_goals (try simp only [fC, g2, g2', g3, g3', hF, hH, Bool.decide_eq_true, Int.one_mul, List.nil_append, cast_rfl, s4, s8] at *)
              all_goals first
                | exact True.intro
                | exact (by decide)
                | omega
                | ((try simp only [nd_s, bn_s, mm_s] at *); omega)
                | (simp only [List.length_append, List.length_nil, List.length_drop, List.length_take]; omega)
                | (rw [List.length_take]; omega)
                | (simp only [rI, rR, hd]; exact ⟨rfl, by first | rfl | exact True.intro⟩)
                | trace_state
        · have hno : ofOk (decC b) (decF b) = false := by
            unfold ofOk; rw [if_neg (show ¬ decC b = 65535 from hce), decide_eq_false (show ¬ decC b = 32768 from hcb), Bool.and_false]
          have hd : rE b = 1031 := by unfold rE; rw [if_neg h4, if_pos hno]
          repeat' (intro t ht; first | (cases t <;> first | (cases ht; done) | ((try simp only [bn_s] at ht); (try simp only [nd_s] at ht); (try (exfalso; first | contradiction | omega)))) | (refine ht ?_ ?_ <;> clear ht) | (refine ht.1 ?_ ?_ <;> clear ht) | (refine ht ?_; clear ht))
          all_goals (try simp only [fC, g2, g2', g3, g3', hF, hH, Bool.decide_eq_true, Int.one_mul, List.nil_append, cast_rfl, s4, s8] at *)
          all_goals first
            | exact True.intro
            | exact (by decide)
            | omega
            | ((try simp only [nd_s, bn_s, mm_s] at *); omega)
            | (simp only [List.length_append, List.length_nil, List.length_drop, List.length_take]; omega)
            | (rw [List.length_take]; omega)
            | (simp only [rI, rR, hd]; exact ⟨rfl, by first | rfl | exact True.intro⟩)
            | trace_state
  · cases e
end Go.Eng
namespace Go.Eng
open Go.Proofs
set_option linter.unusedVariables false
set_option linter.unusedSimpArgs false
set_option maxRecDepth 100000
set_option maxHeartbeats 1000000
theorem ion : ∀ x < 256, ∀ y < 256, (bitop .andNot .u8 ((x : Nat) : Int) ((y : Nat) : Int) = 0 ↔ bitop .and .u8 ((x : Nat) : Int) ((y : Nat) : Int) = ((x : Nat) : Int)) := by decide +kernel
theorem out_in : ∀ (v m : List Int), (∀ x ∈ v, 0 ≤ x ∧ x ≤ 255) → (∀ x ∈ m, 0 ≤ x ∧ x ≤ 255) → outA v m = !inA v m
  | [], _, _, _ => by simp [outA, inA]
  | _ :: _, [], _, _ => by simp [outA, inA]
  | x :: r, y :: l, hv, hm => by
    have hx := hv x (by simp)
    have hy := hm y (by simp)
    have ih := out_in r l (fun a ha => hv a (by simp [ha])) (fun a ha => hm a (by simp [ha]))
    have h := ion x.toNat (by omega) y.toNat (by omega)
    rw [Int.toNat_of_nonneg hx.1, Int.toNat_of_nonneg hy.1] at h
    unfold outA inA
    by_cases h1 : bitop .andNot .u8 x y = 0
    · rw [if_pos h1, if_pos (h.1 h1), ih]
    · rw [if_neg h1, if_neg (fun h2 => h1 (h.2 h2))]; rfl
theorem refO_add (b : List Int) : ∀ (f g : Nat) (i : Int), refO b (f + g) i = (refO b f i && refO b g (i + f))
  | 0, g, i => by rw [Nat.zero_add, show i + ((0 : Nat) : Int) = i by omega]; unfold refO; rfl
  | f + 1, g, i => by
    rw [show f + 1 + g = (f + g) + 1 by omega]
    by_cases h : bitop .and .u8 ((b.getD (b.length - 1 - i.tdiv 8 : Int).toNat 0).fdiv (2 ^ (min (i.tmod 8).toNat 8))) 1 = 0
    · rw [refO_f h, refO_f h, Bool.false_and]
    · rw [refO_t h, refO_t h, refO_add b f g (i + 1), show i + 1 + (f : Int) = i + ((f + 1 : Nat) : Int) by omega]
theorem refO_cons (x : Int) (r : List Int) : ∀ (f : Nat) (i : Int), 0 ≤ i → i + f ≤ 8 * r.length → refO (x :: r) f i = refO r f i
  | 0, _, _, _ => rfl
  | f + 1, i, h0, h => by
    have ih := refO_cons x r f (i + 1) (by omega) (by omega)
    have e : (x :: r).getD (((x :: r).length : Int) - 1 - i.tdiv 8).toNat 0 = r.getD ((r.length : Int) - 1 - i.tdiv 8).toNat 0 := by
      rw [tdiv_nn h0, List.length_cons, show (((r.length + 1 : Nat) : Int) - 1 - i / 8).toNat = ((r.length : Int) - 1 - i / 8).toNat + 1 by omega]; rfl
    by_cases hc : bitop .and .u8 ((r.getD ((r.length : Int) - 1 - i.tdiv 8).toNat 0).fdiv (2 ^ (min (i.tmod 8).toNat 8))) 1 = 0
    · rw [refO_f hc, refO_f (by rw [e]; exact hc)]
    · rw [refO_t hc, refO_t (by rw [e]; exact hc), ih]
theorem refO_head (x : Int) (r : List Int) : ∀ (f : Nat) (i : Int), 0 ≤ i → i + f ≤ 8 → refO (x :: r) f (8 * r.length + i) = refO [x] f i
  | 0, _, _, _ => rfl
  | f + 1, i, h0, h => by
    have ih := refO_head x r f (i + 1) (by omega) (by omega)
    have h8 : 0 ≤ 8 * (r.length : Int) + i := by omega
    have e : (x :: r).getD (((x :: r).length : Int) - 1 - (8 * (r.length : Int) + i).tdiv 8).toNat 0 = [x].getD ((([x] : List Int).length : Int) - 1 - i.tdiv 8).toNat 0 := by
      rw [tdiv_nn h8, tdiv_nn h0, List.length_cons, List.length_cons, List.length_nil, show (((r.length + 1 : Nat) : Int) - 1 - (8 * (r.length : Int) + i) / 8).toNat = 0 by omega, show (((0 + 1 : Nat) : Int) - 1 - i / 8).toNat = 0 by omega]; rfl
    have e2 : (8 * (r.length : Int) + i).tmod 8 = i.tmod 8 := by rw [tmod_nn h8, tmod_nn h0]; omega
    by_cases hc : bitop .and .u8 (([x].getD ((([x] : List Int).length : Int) - 1 - i.tdiv 8).toNat 0).fdiv (2 ^ (min (i.tmod 8).toNat 8))) 1 = 0
    · rw [refO_f hc, refO_f (by rw [e, e2]; exact hc)]
    · rw [refO_t hc, refO_t (by rw [e, e2]; exact hc), Int.add_assoc, ih]
theorem ones0 : ∀ s < 8, ∀ x < 256, spareF (s : Nat) [((x : Nat) : Int)] = true → (((x : Nat) : Int) = ownA (s : Nat) ↔ refO [((x : Nat) : Int)] (8 - s) 0 = true) := by decide +kernel
theorem own0 : ownA 0 = 255 := by decide
theorem onesA_neg : ∀ (r : List Int) (s : Int), s ≤ 0 → onesA r s = onesA r 0
  | [], _, _ => by simp [onesA]
  | x :: r, s, h => by
    have h1 : ownA s = 255 := if_neg (by omega)
    have ih := onesA_neg r (s - 8) (by omega)
    have ih0 := onesA_neg r (0 - 8) (by omega)
    unfold onesA
    rw [h1, own0, ih, ih0]
theorem spare_one {s x : Int} (r : List Int) (hs : s ≤ 8) (h : spareF s (x :: r) = true) : spareF s [x] = true := by
  by_cases h1 : x.fdiv (2 ^ (min (8 - (if 8 < s then 8 else s)).toNat 8)) = 0
  · exact if_pos h1
  · have e : spareF s (x :: r) = false := if_neg h1
    rw [e] at h; cases h
theorem ones_law : ∀ (m : List Int) (s : Int), (∀ x ∈ m, 0 ≤ x ∧ x ≤ 255) → 0 ≤ s → s ≤ 8 * m.length → spareF s m = true → onesA m s = refO m (8 * m.length - s).toNat 0
  | [], s, _, h0, h1, _ => by
    have : s = 0 := by simp at h1; omega
    subst this; rfl
  | x :: r, s, hm, h0, h1, hs => by
    have hx := hm x (by simp)
    have hr : ∀ a ∈ r, 0 ≤ a ∧ a ≤ 255 := fun a ha => hm a (by simp [ha])
    rw [List.length_cons] at h1
    by_cases h8 : 8 ≤ s
    · have hsp : x = 0 ∧ spareF (s - 8) r = true := by
        have h8' : (if 8 < s then 8 else s) = 8 := by split <;> omega
        have e : spareF s (x :: r) = if x.fdiv (2 ^ (min (8 - (if 8 < s then 8 else s)).toNat 8)) = 0 then spareF (s - (if 8 < s then 8 else s)) r else false := rfl
        rw [h8', show (min (8 - 8 : Int).toNat 8) = 0 from rfl, Int.pow_zero, Int.fdiv_one] at e
        rw [e] at hs
        by_cases h9 : x = 0
        · rw [if_pos h9] at hs; exact ⟨h9, hs⟩
        · rw [if_neg h9] at hs; cases hs
      have ho : ownA s = 0 := by
        unfold ownA
        rw [if_pos (by omega)]
        by_cases h9 : 8 < s
        · rw [if_pos h9]; decide
        · rw [if_neg h9, show s = 8 by omega]; decide
      have ih := ones_law r (s - 8) hr (by omega) (by omega) hsp.2
      have hn : (8 * (((x :: r).length : Nat) : Int) - s).toNat = (8 * (r.length : Int) - (s - 8)).toNat := by rw [List.length_cons]; omega
      unfold onesA
      rw [if_pos (by rw [ho]; exact hsp.1), ih, hn, refO_cons x r _ 0 (by omega) (by omega)]
    · have hs1 := spare_one r (by omega) hs
      have h2 := ones0 s.toNat (by omega) x.toNat (by omega)
      rw [Int.toNat_of_nonneg h0, Int.toNat_of_nonneg hx.1] at h2
      have h3 := h2 hs1
      have hsr : spareF 0 r = true := spare0 r hr
      have ih := ones_law r 0 hr (Int.le_refl _) (by omega) hsr
      have hn : (8 * (((x :: r).length : Nat) : Int) - s).toNat = 8 * r.length + (8 - s.toNat) := by rw [List.length_cons]; omega
      have hn0 : (8 * (r.length : Int) - 0).toNat = 8 * r.length := by omega
      have hhd := refO_head x r (8 - s.toNat) 0 (Int.le_refl _) (by omega)
      rw [Int.add_zero] at hhd
      rw [hn0] at ih
      unfold onesA
      rw [hn, refO_add, refO_cons x r _ 0 (by omega) (by omega), show (0 : Int) + ((8 * r.length : Nat) : Int) = 8 * (r.length : Int) by omega, hhd, onesA_neg r (s - 8) (by omega), ih]
      by_cases hc : x = ownA s
      · rw [if_pos hc, h3.1 hc, Bool.and_true]
      · rw [if_neg hc, show refO [x] (8 - s.toNat) 0 = false by
          cases hq : refO [x] (8 - s.toNat) 0 with
          | false => rfl
          | true => exact absurd (h3.2 hq) hc, Bool.and_false]
theorem ones_basic {f : Int} {m : List Int} (hm : ∀ x ∈ m, 0 ≤ x ∧ x ≤ 255) (h : fitsF f m = true) : onesF m (fBits f) = refO m (bitsR f).toNat 0 := by
  unfold fitsF at h
  split at h
  · rename_i hh
    have hi : fIs f = true := fIs_t.2 hh.1
    have hz := size_le f.toNat (by omega)
    rw [Int.toNat_of_nonneg hh.1.1] at hz
    have hb : fBits f = bitsL.getD f.toNat 0 := if_pos hi
    have hbl := bits_le f.toNat (by omega)
    have ho := ones_law m (m.length * 8 - fBits f) hm (by omega) (by omega) (by rw [hb, show (m.length : Int) * 8 - bitsL.getD f.toNat 0 = 8 * sizeF f - bitsL.getD f.toNat 0 by omega]; exact h)
    unfold onesF
    rw [ho, ← (law8 f).1, show (8 * (m.length : Int) - (m.length * 8 - fBits f)) = fBits f by omega]
  · cases h
theorem ones_extra {m : List Int} (hm : ∀ x ∈ m, 0 ≤ x ∧ x ≤ 255) : onesF m (m.length * 8) = refO m (8 * (m.length : Int)).toNat 0 := by
  have ho := ones_law m 0 hm (Int.le_refl _) (by omega) (spare0 m hm)
  unfold onesF
  rw [show (m.length : Int) * 8 - m.length * 8 = 0 by omega, ho, Int.sub_zero]
theorem wrong_law {c f : Int} {h : Bool} {v m : List Int} (hv : ∀ x ∈ v, 0 ≤ x ∧ x ≤ 255) (hm : ∀ x ∈ m, 0 ≤ x ∧ x ≤ 255) (hc : c = 32768 ∨ c = 65535) : wrongF f h v m (ofBits c f) (ofExtra c) = refW c f h v m := by
  have hoi := out_in v m hv hm
  have hio : (outA v m = true) = (inA v m = false) := by rw [hoi]; simp
  rcases hc with hc | hc
  · have he : ofExtra c = false := decide_eq_false (by omega)
    have hb : ofBits c f = fBits f := if_neg (by omega)
    have f1 := fits_law (n := f) hv
    have f2 := fits_law (n := f) hm
    unfold wrongF refW
    rw [he, hb, f1, f2]
    simp only [hio, hc, true_and, if_true, Bool.false_eq_true, if_false]
    cases h4 : refFitsF f m with
    | true =>
      have ho := ones_basic hm (f2.trans h4)
      rw [ho]
    | false =>
      cases h with
      | true => simp
      | false => simp
  · have he : ofExtra c = true := decide_eq_true hc
    have hn : ¬ c = 32768 := by omega
    have ho := ones_extra hm
    unfold wrongF refW
    rw [he]
    simp only [hio, hn, false_and, if_true, if_false, reduceCtorEq, ho, and_false]
theorem zf (x : Int) (h : x = 0) : x.fdiv (2 ^ (min (Int.toNat 32) IntKind.u64.bits)) = 0 := by subst h; decide
theorem zu (x : Int) (h0 : 0 ≤ x) : x.fdiv (2 ^ (min (Int.toNat 32) IntKind.u64.bits)) = 0 ↔ x < 4294967296 := by
  rw [show (2 : Int) ^ (min (Int.toNat 32) IntKind.u64.bits) = 4294967296 from by decide, Int.fdiv_eq_ediv_of_nonneg _ (by decide)]; omega
theorem refW_fit {f : Int} {h : Bool} {v m : List Int} (hw : refW 32768 f h v m = 0) : refFitsF f v = true := by
  cases hh : refFitsF f v with
  | true => rfl
  | false => unfold refW at hw; rw [if_pos ⟨rfl, hh⟩] at hw; exact absurd hw (by decide)
theorem right_law {c f : Int} {h : Bool} {x : Int} {v m : List Int} (hx : 0 ≤ x) (hv : ∀ x ∈ v, 0 ≤ x ∧ x ≤ 255) (hm : ∀ x ∈ m, 0 ≤ x ∧ x ≤ 255) : rightO c f h x v m = refR c f h x v m := by
  by_cases hb : c = 32768
  · have hw := wrong_law (f := f) (h := h) hv hm (.inl hb)
    have hok : ofOk c f = fIs f := by unfold ofOk; rw [if_neg (by omega), decide_eq_true hb, Bool.and_true]
    have hmk : ofMask c f = maskR f := by unfold ofMask; rw [if_neg (by omega)]; exact (law8 f).2.2
    have he : ofExtra c = false := decide_eq_false (by omega)
    have hz : ofSize c f = sizeR f := by unfold ofSize; rw [if_neg (by omega)]; exact (law8 f).2.1
    rw [Bool.eq_iff_iff]
    constructor
    · intro hr
      obtain ⟨r1, r2, r3, r4, r5, r6, r7, r8⟩ := right_len hr
      unfold refR
      rw [if_neg (fun hh => hh.elim (fun hh => by have := r3 hh.1; omega) fun hh => hh.2 (r2 hh.1)), if_pos hb]
      rw [hw] at r8; rw [hok] at r4; rw [hmk] at r5; rw [he] at r6
      have hx0 : x = 0 := by simpa using r6
      rw [r4, hx0, r8]
      cases h with
      | true => rw [r5 rfl]; rfl
      | false => rfl
    · intro hr
      unfold refR at hr
      by_cases hn : (h = false ∧ 0 < m.length) ∨ (h = true ∧ ¬ (m.length : Int) = v.length)
      · rw [if_pos hn] at hr; cases hr
      · rw [if_neg hn, if_pos hb] at hr
        simp only [Bool.and_eq_true, Bool.or_eq_true, decide_eq_true_eq] at hr
        obtain ⟨⟨⟨h1, h2⟩, h3⟩, h4⟩ := hr
        have hfit := refW_fit (hb ▸ h4)
        have hsz := ref_fit hfit
        unfold rightO
        rw [hw, hok, hmk, he, hz, h1, h4, zf x h2, decide_eq_true h2]
        have hvl : decide ((v.length : Int) ≤ sizeR f) = true := decide_eq_true (by omega)
        rw [hvl]
        cases h with
        | true =>
          have : (m.length : Int) = v.length := Decidable.by_contra fun hh => hn (.inr ⟨rfl, hh⟩)
          rw [decide_eq_true this]
          simpa using h3
        | false =>
          have : m.length = 0 := by have : ¬ 0 < m.length := fun hh => hn (.inl ⟨rfl, hh⟩); omega
          rw [decide_eq_true this]; rfl
  · by_cases hc : c = 65535
    · have hw := wrong_law (f := f) (h := h) hv hm (.inr hc)
      have hok : ofOk c f = (decide (0 ≤ f) && decide (f ≤ 127)) := if_pos hc
      have hmk : ofMask c f = true := if_pos hc
      have he : ofExtra c = true := decide_eq_true hc
      have hz : ofSize c f = 100 := if_pos hc
      rw [Bool.eq_iff_iff]
      constructor
      · intro hr
        obtain ⟨r1, r2, r3, r4, r5, r6, r7, r8⟩ := right_len hr
        unfold refR
        rw [if_neg (fun hh => hh.elim (fun hh => by have := r3 hh.1; omega) fun hh => hh.2 (r2 hh.1)), if_neg hb]
        rw [hw] at r8; rw [hok] at r4; rw [hz] at r1
        have h7 := (zu x hx).1 r7
        simp only [Bool.and_eq_true, decide_eq_true_eq] at r4 ⊢
        exact ⟨⟨⟨⟨⟨hc, r4.1⟩, r4.2⟩, h7⟩, r1⟩, r8⟩
      · intro hr
        unfold refR at hr
        by_cases hn : (h = false ∧ 0 < m.length) ∨ (h = true ∧ ¬ (m.length : Int) = v.length)
        · rw [if_pos hn] at hr; cases hr
        · rw [if_neg hn, if_neg hb] at hr
          simp only [Bool.and_eq_true, decide_eq_true_eq] at hr
          obtain ⟨⟨⟨⟨⟨h1, h2⟩, h3⟩, h4⟩, h5⟩, h6⟩ := hr
          unfold rightO
          rw [hw, hok, hmk, he, hz, h6, (zu x hx).2 h4, decide_eq_true h2, decide_eq_true h3, decide_eq_true h5]
          cases h with
          | true =>
            have : (m.length : Int) = v.length := Decidable.by_contra fun hh => hn (.inr ⟨rfl, hh⟩)
            rw [decide_eq_true this]; rfl
          | false =>
            have : m.length = 0 := by have : ¬ 0 < m.length := fun hh => hn (.inl ⟨rfl, hh⟩); omega
            rw [decide_eq_true this]; rfl
    · have hok : ofOk c f = false := by unfold ofOk; rw [if_neg hc, decide_eq_false hb, Bool.and_false]
      have h1 : rightO c f h x v m = false := by unfold rightO; rw [hok]; rfl
      have h2 : refR c f h x v m = false := by
        unfold refR; split
        · rfl
        · first | (rw [decide_eq_false hc]; rfl) | (rw [if_neg hb, decide_eq_false hc]; rfl)
      rw [h1, h2]
theorem byte1 {n : Int} (h : 0 ≤ n ∧ n ≤ 255) : bytesN n 1 = [n] := by
  show [(n.fdiv (2 ^ (min (8 * ((1 : Int) - 1 - ((0 : Nat) : Int))).toNat 64))) % 256] = [n]
  rw [show (min (8 * ((1 : Int) - 1 - ((0 : Nat) : Int))).toNat 64) = 0 from by decide, Int.pow_zero, Int.fdiv_one]
  congr 1; omega
theorem right_nums {c f : Int} {h : Bool} {x : Int} {v m : List Int} (hr : rightO c f h x v m = true) : 0 ≤ f ∧ f ≤ 127 ∧ (c = 65535 ∨ c = 32768) ∧ (v.length : Int) ≤ 100 ∧ (m.length : Int) ≤ 100 ∧ 0 ≤ restO c v m ∧ restO c v m ≤ 204 ∧ restO c v m = (bodyR c x v m).length := by
  obtain ⟨r1, r2, r3, r4, _⟩ := right_len hr
  have hof := of_le c f
  have hm : (m.length : Int) ≤ 100 := by cases h; have := r3 rfl; omega; have := r2 rfl; omega
  have hb : restO c v m = (bodyR c x v m).length := by
    have l4 := bytesN_len (n := x) (w := 4) (by decide)
    unfold restO bodyR
    split
    · rw [List.length_append, List.length_append]; omega
    · rw [List.length_append, List.length_append, List.length_nil]; omega
  have h0 : 0 ≤ restO c v m ∧ restO c v m ≤ 204 := by unfold restO; split <;> omega
  have hcf : 0 ≤ f ∧ f ≤ 127 ∧ (c = 65535 ∨ c = 32768) := by
    unfold ofOk at r4
    split at r4
    · simp at r4; omega
    · simp at r4; have := fIs_t.1 r4.1; omega
  exact ⟨hcf.1, hcf.2.1, hcf.2.2, by omega, hm, h0.1, h0.2, hb⟩
theorem enc_law {c f : Int} {h : Bool} {x : Int} {v m : List Int} (hr : rightO c f h x v m = true) : encO c f h x v m = refB c f h x v m := by
  obtain ⟨n1, n2, n3, n4, n5, n6, n7, n8⟩ := right_nums hr
  unfold encO headO refB
  rw [byte1 (n := 2 * f + if h = true then 1 else 0) (by split <;> omega), byte1 (n := restO c v m) (by omega), n8]
  unfold bodyR
  simp only [List.append_assoc, List.cons_append, List.nil_append]
theorem size_law {c f : Int} {h : Bool} {x : Int} {v m : List Int} : sizeO c f h x v m = ((if rightO c f h x v m = true then refB c f h x v m else []).length : Int) := by
  unfold sizeO
  split
  · rename_i hr
    obtain ⟨n1, n2, n3, n4, n5, n6, n7, n8⟩ := right_nums hr
    have l2 := bytesN_len (n := c) (w := 2) (by decide)
    unfold refB
    rw [n8]
    simp only [List.length_append, List.length_cons, List.length_nil]; omega
  · rfl
theorem dec_law {b : List Int} (hb : ∀ x ∈ b, 0 ≤ x ∧ x ≤ 255) : decE b = rE b := by
  unfold decE rE
  split
  · rfl
  · split
    · rfl
    · rename_i hok
      split
      · rfl
      · split
        · rfl
        · have hc : decC b = 32768 ∨ decC b = 65535 := by
            unfold ofOk at hok
            split at hok
            · right; assumption
            · left; by_cases h : decC b = 32768
              · exact h
              · rw [decide_eq_false h, Bool.and_false] at hok; exact absurd rfl hok
          refine wrong_law (fun x hx => ?_) (fun x hx => ?_) hc
          · exact hb x (List.mem_of_mem_take (List.mem_of_mem_drop hx))
          · unfold decM at hx
            split at hx
            · exact hb x (List.mem_of_mem_take (List.mem_of_mem_drop hx))
            · cases hx
def L1 : List Int := [128, 0, 10, 2, 8, 0, 7]
def L2 : List Int := [128, 0, 11, 4, 8, 0, 8, 0]
theorem s1 : decE L1 = 0 ∧ decI L1 (decC L1) = 32768 ∧ decI L1 (decF L1) = 5 ∧ decH L1 = false ∧ decI L1 (decX L1) = 0 ∧ decR L1 (decV L1) = [8, 0] ∧ decR L1 (decM L1) = [] ∧ decI L1 (decN L1) = 6 ∧ decE L2 = 1033 := by decide +kernel
theorem s2 : rightO 32768 5 false 0 [8, 0] [] = true ∧ encO 32768 5 false 0 [8, 0] [] = [128, 0, 10, 2, 8, 0] := by decide +kernel
end Go.Eng
namespace Go.Eng
open Go.Proofs
set_option linter.unusedVariables false
set_option linter.unusedSimpArgs false
set_option maxRecDepth 100000
set_option maxHeartbeats 1000000
def ir_bytes_Equal : IR :=
(.seq
(.keep [0, 1]
(.reg (oD 4 (.mov cF) ::
[])))
(.seq
(.keep [0, 1]
(.reg (oM 5 0 ::
oD 6 (.b2s (.t 5)) ::
oM 7 1 ::
oD 8 (.b2s (.t 7)) ::
oD 9 (.bin .eql (.t 6) (.t 8)) ::
oM 4 9 ::
[])))
.ret))
def rd_bytes_Equal : List RD := [.tmp 4 true none]
theorem ok_bytes_Equal : fnOk Tryz.prog Tryz.f116 ir_bytes_Equal rd_bytes_Equal = true := by kernel_rfl
def S_bytes_Equal : List AV → List Obj → Option (Prop × AV)
  | [.imm (.int .u8) a, .imm (.int .u8) b], [] => some ((True, .bool (decide (a = b))))
  | _, _ => none
theorem snd_bytes_Equal : SoundS Tryz.prog 116 (RoF S_bytes_Equal).sum := by
  refine ro_fn Tryz.func116 ok_bytes_Equal (env_nil _) fun args objs p v e => ?_
  unfold S_bytes_Equal at e
  split at e
  · rename_i a b
    cases e
    refine ⟨rfl, fun hw ho hp => ?_⟩
    change List Int at a
    change List Int at b
    repeat' (intro t ht; first | (cases t <;> first | (cases ht; done) | ((try simp only [bn_s] at ht); (try simp only [nd_s] at ht))) | (refine ht ?_ ?_ <;> clear ht) | (refine ht.1 ?_ ?_ <;> clear ht) | (refine ht ?_; clear ht))
    all_goals first
      | exact True.intro
      | exact ⟨rfl, rfl⟩
      | trace_state
  · cases e
def ir_oxm_Alike : IR :=
(.seq
(.keep [0, 1]
(.reg (oD 2 (.boxv (.t 0)) ::
oD 3 (.boxv (.t 1)) ::
oD 4 (.mov cF) ::
[])))
(.seq
(.keep [2, 3]
(.reg (oD 5 (.fieldAddr 0 (.t 2)) ::
oL 6 5 ::
oD 7 (.fieldAddr 0 (.t 3)) ::
oL 8 7 ::
oD 9 (.bin .eql (.t 6) (.t 8)) ::
oM 10 9 ::
oT 10 11 (.fieldAddr 1 (.t 2)) ::
oT 10 12 (.load none (.t 11)) ::
oT 10 13 (.fieldAddr 1 (.t 3)) ::
oT 10 14 (.load none (.t 13)) ::
oT 10 15 (.bin .eql (.t 12) (.t 14)) ::
oD 16 (.pick (.t 10) (.t 15) cF) ::
oM 17 16 ::
oT 17 18 (.fieldAddr 3 (.t 2)) ::
oT 17 19 (.load none (.t 18)) ::
oT 17 20 (.fieldAddr 3 (.t 3)) ::
oT 17 21 (.load none (.t 20)) ::
oT 17 22 (.bin .eql (.t 19) (.t 21)) ::
oD 23 (.pick (.t 17) (.t 22) cF) ::
oM 4 23 ::
[])))
.ret))
def rd_oxm_Alike : List RD := [.tmp 4 true none]
theorem ok_oxm_Alike : fnOk Tryz.prog Tryz.f224 ir_oxm_Alike rd_oxm_Alike = true := by kernel_rfl
def S_oxm_Alike : List AV → List Obj → Option (Prop × AV)
  | [.agg [.int .i64 c, .int .i64 f, .bool h, .int .u64 x, .imm (.int .u8) v, .imm (.int .u8) m], .agg [.int .i64 c', .int .i64 f', .bool h', .int .u64 x', .imm (.int .u8) v', .imm (.int .u8) m']], [] => some ((True, .bool (decide (c = c') && decide (f = f') && decide (x = x'))))
  | _, _ => none
theorem snd_oxm_Alike : SoundS Tryz.prog 224 (RoF S_oxm_Alike).sum := by
  refine ro_fn Tryz.func224 ok_oxm_Alike (env_nil _) fun args objs p v e => ?_
  unfold S_oxm_Alike at e
  split at e
  · rename_i c f h x v m c' f' h' x' v' m'
    cases e
    refine ⟨rfl, fun hw ho hp => ?_⟩
    change List Int at v
    change List Int at m
    change List Int at v'
    change List Int at m'
    repeat' (intro t ht; first | (cases t <;> first | (cases ht; done) | ((try simp only [bn_s] at ht); (try simp only [nd_s] at ht))) | (refine ht ?_ ?_ <;> clear ht) | (refine ht.1 ?_ ?_ <;> clear ht) | (refine ht ?_; clear ht))
    all_goals first
      | exact True.intro
      | (simp_all; done)
      | trace_state
  · cases e
def ir_oxm_Same : IR :=
(.seq
(.keep [0, 1]
(.reg (oD 2 (.boxv (.t 0)) ::
oD 3 (.boxv (.t 1)) ::
oD 4 (.mov cF) ::
[])))
(.seq
(.keep [2, 3]
(.reg (oD 5 (.load (some 6) (.t 2)) ::
oD 6 (.load (some 6) (.t 3)) ::
oD 7 (.call false (.f 224) [(.t 5), (.t 6)]) ::
oM 8 7 ::
oT 8 9 (.fieldAddr 2 (.t 2)) ::
oT 8 10 (.load none (.t 9)) ::
oT 8 11 (.fieldAddr 2 (.t 3)) ::
oT 8 12 (.load none (.t 11)) ::
oT 8 13 (.eqb false (.t 10) (.t 12)) ::
oD 14 (.pick (.t 8) (.t 13) cF) ::
oM 15 14 ::
oT 15 16 (.fieldAddr 4 (.t 2)) ::
oT 15 17 (.load none (.t 16)) ::
oT 15 18 (.fieldAddr 4 (.t 3)) ::
oT 15 19 (.load none (.t 18)) ::
oT 15 20 (.call false (.f 116) [(.t 17), (.t 19)]) ::
oD 21 (.pick (.t 15) (.t 20) cF) ::
oM 22 21 ::
oT 22 23 (.fieldAddr 5 (.t 2)) ::
oT 22 24 (.load none (.t 23)) ::
oT 22 25 (.fieldAddr 5 (.t 3)) ::
oT 22 26 (.load none (.t 25)) ::
oT 22 27 (.call false (.f 116) [(.t 24), (.t 26)]) ::
oD 28 (.pick (.t 22) (.t 27) cF) ::
oM 4 28 ::
[])))
.ret))
def rd_oxm_Same : List RD := [.tmp 4 true none]
theorem ok_oxm_Same : fnOk Tryz.prog Tryz.f174 ir_oxm_Same rd_oxm_Same = true := by kernel_rfl
def S_oxm_Same : List AV → List Obj → Option (Prop × AV)
  | [.agg [.int .i64 c, .int .i64 f, .bool h, .int .u64 x, .imm (.int .u8) v, .imm (.int .u8) m], .agg [.int .i64 c', .int .i64 f', .bool h', .int .u64 x', .imm (.int .u8) v', .imm (.int .u8) m']], [] => some ((True, .bool (sameO c f h x v m c' f' h' x' v' m')))
  | _, _ => none
theorem snd_oxm_Same : SoundS Tryz.prog 174 (RoF S_oxm_Same).sum := by
  refine ro_fn Tryz.func174 ok_oxm_Same (env_cons (s := RoF S_oxm_Alike) snd_oxm_Alike (env_cons (s := RoF S_bytes_Equal) snd_bytes_Equal (env_nil _))) fun args objs p v e => ?_
  unfold S_oxm_Same at e
  split at e
  · rename_i c f h x v m c' f' h' x' v' m'
    cases e
    refine ⟨rfl, fun hw ho hp => ?_⟩
    change List Int at v
    change List Int at m
    change List Int at v'
    change List Int at m'
    repeat' (intro t ht; first | (cases t <;> first | (cases ht; done) | ((try simp only [bn_s] at ht); (try simp only [nd_s] at ht))) | (refine ht ?_ ?_ <;> clear ht) | (refine ht.1 ?_ ?_ <;> clear ht) | (refine ht ?_; clear ht))
    all_goals first
      | exact True.intro
      | (refine ⟨?_, rfl⟩; unfold sameO; simp_all; done)
      | (refine ⟨?_, rfl⟩; unfold sameO; cases h <;> cases h' <;> simp_all; done)
      | (refine ⟨?_, rfl⟩; unfold sameO; rcases ‹(¬c = c' ∨ ¬f = f') ∨ ¬x = x'› with (h1 | h1) | h1 <;> rw [decide_eq_false h1] <;> simp)
      | trace_state
  · cases e
end Go.Eng
namespace Go.Eng
open Go.Proofs
set_option linter.unusedVariables false
set_option linter.unusedSimpArgs false
set_option maxRecDepth 100000
set_option maxHeartbeats 1000000
abbrev OV := Int × Int × Bool × Int × List Int × List Int × Unit
instance : DecidableEq (Int × List Int × List Int × Unit) := inferInstance
instance : DecidableEq OV := inferInstance
def lenO (o : OV) : Prop := o.2.2.2.2.1.length ≤ 100000 ∧ o.2.2.2.2.2.1.length ≤ 100000
structure allLen (l : List OV) : Prop where
  h : ∀ o ∈ l, lenO o
end Go.Eng
