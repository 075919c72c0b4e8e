/- Contracts of functions of the given program, told by plain Lean functions. No condition. -/
import Derived.Test.YtmbcgankddgpjaaDoorProg
import Derived.Test.YtmbcgankddgpjaaDoorEArg
import Derived.KernelRfl
import Derived.Test.YtmbcgankddgpjaaDoorO9
import Derived.Test.YtmbcgankddgpjaaDoorO7
namespace Go.Eng
open Go.Proofs
set_option linter.unusedVariables false
set_option linter.unusedSimpArgs false
set_option maxRecDepth 100000
set_option maxHeartbeats 1000000
def ir_r08_Alike : IR :=
(.seq
(.keep [0, 1]
(.reg (oD 2 (.boxv (.t 0)) ::
oD 3 (.boxv (.t 1)) ::
oD 4 (.mov cF) ::
[])))
(.seq
(.keep [2, 3]
(.reg (oD 5 (.fieldAddr 0 (.t 2)) ::
oL 6 5 ::
oD 7 (.fieldAddr 0 (.t 3)) ::
oL 8 7 ::
oD 9 (.bin .eql (.t 6) (.t 8)) ::
oM 10 9 ::
oT 10 11 (.fieldAddr 1 (.t 2)) ::
oT 10 12 (.load none (.t 11)) ::
oT 10 13 (.fieldAddr 1 (.t 3)) ::
oT 10 14 (.load none (.t 13)) ::
oT 10 15 (.bin .eql (.t 12) (.t 14)) ::
oD 16 (.pick (.t 10) (.t 15) cF) ::
oM 17 16 ::
oT 17 18 (.fieldAddr 3 (.t 2)) ::
oT 17 19 (.load none (.t 18)) ::
oT 17 20 (.fieldAddr 3 (.t 3)) ::
oT 17 21 (.load none (.t 20)) ::
oT 17 22 (.bin .eql (.t 19) (.t 21)) ::
oD 23 (.pick (.t 17) (.t 22) cF) ::
oM 4 23 ::
[])))
.ret))
def rd_r08_Alike : List RD := [.tmp 4 true none]
theorem ok_r08_Alike : fnOk Tryd.prog Tryd.f74 ir_r08_Alike rd_r08_Alike = true := by kernel_rfl
def S_r08_Alike : List AV → List Obj → Option (Prop × AV)
  | [.agg [.int .i64 c, .int .i64 f, .bool h, .int .u64 x, .imm (.int .u8) v, .imm (.int .u8) m], .agg [.int .i64 c', .int .i64 f', .bool h', .int .u64 x', .imm (.int .u8) v', .imm (.int .u8) m']], [] => some ((True, .bool (decide (c = c') && decide (f = f') && decide (x = x'))))
  | _, _ => none
theorem snd_r08_Alike : SoundS Tryd.prog 74 (RoF S_r08_Alike).sum := by
  refine ro_fn Tryd.func74 ok_r08_Alike (env_nil _) fun args objs p v e => ?_
  unfold S_r08_Alike at e
  split at e
  · rename_i c f h x v m c' f' h' x' v' m'
    cases e
    refine ⟨rfl, fun hw ho hp => ?_⟩
    change List Int at v
    change List Int at m
    change List Int at v'
    change List Int at m'
    repeat' (intro t ht; first | (cases t <;> first | (cases ht; done) | ((try simp only [bn_s] at ht); (try simp only [nd_s] at ht))) | (refine ht ?_ ?_ <;> clear ht) | (refine ht.1 ?_ ?_ <;> clear ht) | (refine ht ?_; clear ht))
    all_goals first
      | exact True.intro
      | (simp_all; done)
      | trace_state
  · cases e
def sameO (c f : Int) (h : Bool) (x : Int) (v m : List Int) (c' f' : Int) (h' : Bool) (x' : Int) (v' m' : List Int) : Bool := decide (c = c') && decide (f = f') && decide (x = x') && (h == h') && decide (v = v') && decide (m = m')
theorem same_self (c f : Int) (h : Bool) (x : Int) (v m : List Int) : sameO c f h x v m c f h x v m = true := by unfold sameO; simp
def ir_r08_Same : IR :=
(.seq
(.keep [0, 1]
(.reg (oD 2 (.boxv (.t 0)) ::
oD 3 (.boxv (.t 1)) ::
oD 4 (.mov cF) ::
[])))
(.seq
(.keep [2, 3]
(.reg (oD 5 (.load (some 6) (.t 2)) ::
oD 6 (.load (some 6) (.t 3)) ::
oD 7 (.call false (.f 74) [(.t 5), (.t 6)]) ::
oM 8 7 ::
oT 8 9 (.fieldAddr 2 (.t 2)) ::
oT 8 10 (.load none (.t 9)) ::
oT 8 11 (.fieldAddr 2 (.t 3)) ::
oT 8 12 (.load none (.t 11)) ::
oT 8 13 (.eqb false (.t 10) (.t 12)) ::
oD 14 (.pick (.t 8) (.t 13) cF) ::
oM 15 14 ::
oT 15 16 (.fieldAddr 4 (.t 2)) ::
oT 15 17 (.load none (.t 16)) ::
oT 15 18 (.fieldAddr 4 (.t 3)) ::
oT 15 19 (.load none (.t 18)) ::
oT 15 20 (.call false (.f 20) [(.t 17), (.t 19)]) ::
oD 21 (.pick (.t 15) (.t 20) cF) ::
oM 22 21 ::
oT 22 23 (.fieldAddr 5 (.t 2)) ::
oT 22 24 (.load none (.t 23)) ::
oT 22 25 (.fieldAddr 5 (.t 3)) ::
oT 22 26 (.load none (.t 25)) ::
oT 22 27 (.call false (.f 20) [(.t 24), (.t 26)]) ::
oD 28 (.pick (.t 22) (.t 27) cF) ::
oM 4 28 ::
[])))
.ret))
def rd_r08_Same : List RD := [.tmp 4 true none]
theorem ok_r08_Same : fnOk Tryd.prog Tryd.f49 ir_r08_Same rd_r08_Same = true := by kernel_rfl
def S_r08_Same : List AV → List Obj → Option (Prop × AV)
  | [.agg [.int .i64 c, .int .i64 f, .bool h, .int .u64 x, .imm (.int .u8) v, .imm (.int .u8) m], .agg [.int .i64 c', .int .i64 f', .bool h', .int .u64 x', .imm (.int .u8) v', .imm (.int .u8) m']], [] => some ((True, .bool (sameO c f h x v m c' f' h' x' v' m')))
  | _, _ => none
theorem snd_r08_Same : SoundS Tryd.prog 49 (RoF S_r08_Same).sum := by
  refine ro_fn Tryd.func49 ok_r08_Same (env_cons (s := RoF S_r08_Alike) snd_r08_Alike (env_cons (s := RoF S_r01_Bytes) snd_r01_Bytes (env_nil _))) fun args objs p v e => ?_
  unfold S_r08_Same at e
  split at e
  · rename_i c f h x v m c' f' h' x' v' m'
    cases e
    refine ⟨rfl, fun hw ho hp => ?_⟩
    change List Int at v
    change List Int at m
    change List Int at v'
    change List Int at m'
    repeat' (intro t ht; first | (cases t <;> first | (cases ht; done) | ((try simp only [bn_s] at ht); (try simp only [nd_s] at ht))) | (refine ht ?_ ?_ <;> clear ht) | (refine ht.1 ?_ ?_ <;> clear ht) | (refine ht ?_; clear ht))
    all_goals first
      | exact True.intro
      | (refine ⟨?_, rfl⟩; unfold sameO; simp_all; done)
      | (refine ⟨?_, rfl⟩; unfold sameO; cases h <;> cases h' <;> simp_all; done)
      | (refine ⟨?_, rfl⟩; unfold sameO; rcases ‹(¬c = c' ∨ ¬f = f') ∨ ¬x = x'› with (h1 | h1) | h1 <;> rw [decide_eq_false h1] <;> simp)
      | trace_state
  · cases e
def ir_r08_Few : IR :=
(.seq
(.keep [0]
(.reg (oD 1 (.boxv (.t 0)) ::
oD 2 (.mov cF) ::
[])))
(.seq
(.keep [1]
(.reg (oD 3 (.fieldAddr 4 (.t 1)) ::
oL 4 3 ::
oD 5 (.len (.t 4)) ::
oD 6 (.bin .leq (.t 5) (cI 300)) ::
oM 7 6 ::
oT 7 8 (.fieldAddr 5 (.t 1)) ::
oT 7 9 (.load none (.t 8)) ::
oT 7 10 (.len (.t 9)) ::
oT 7 11 (.bin .leq (.t 10) (cI 300)) ::
oD 12 (.pick (.t 7) (.t 11) cF) ::
oM 2 12 ::
[])))
.ret))
def rd_r08_Few : List RD := [.tmp 2 true none]
theorem ok_r08_Few : fnOk Tryd.prog Tryd.f37 ir_r08_Few rd_r08_Few = true := by kernel_rfl
def S_r08_Few : List AV → List Obj → Option (Prop × AV)
  | [.agg [.int .i64 c, .int .i64 f, .bool h, .int .u64 x, .imm (.int .u8) v, .imm (.int .u8) m]], [] => some ((True, .bool (decide (v.length ≤ 300) && decide (m.length ≤ 300))))
  | _, _ => none
theorem snd_r08_Few : SoundS Tryd.prog 37 (RoF S_r08_Few).sum := by
  refine ro_fn Tryd.func37 ok_r08_Few (env_nil _) fun args objs p v e => ?_
  unfold S_r08_Few at e
  split at e
  · rename_i c f h x v m
    cases e
    refine ⟨rfl, fun hw ho hp => ?_⟩
    change List Int at v
    change List Int at m
    repeat' (intro t ht; first | (cases t <;> first | (cases ht; done) | ((try simp only [bn_s] at ht); (try simp only [nd_s] at ht))) | (refine ht ?_ ?_ <;> clear ht) | (refine ht.1 ?_ ?_ <;> clear ht) | (refine ht ?_; clear ht))
    all_goals first
      | exact True.intro
      | (simp_all; done)
      | (have e : decide (v.length ≤ 300) = false := decide_eq_false (by omega)
         rw [e]; exact ⟨rfl, rfl⟩)
      | (have e : decide (v.length ≤ 300) = true := decide_eq_true (by omega)
         rw [e]; refine ⟨?_, rfl⟩; rw [Bool.true_and]; congr 1; rw [Bool.eq_iff_iff]; simp only [decide_eq_true_eq]; omega)
      | trace_state
  · cases e
def rE (b : List Int) : Int := if b.length < 4 then 1026 else if ofOk (decC b) (decF b) = false then 1031 else if decH b = true ∧ ofMask (decC b) (decF b) = false then 1033 else if decK b = false ∨ (b.length : Int) - 4 < b.getD 3 0 then 1026 else refW (decC b) (decF b) (decH b) (decV b) (decM b)
def rI (b : List Int) (x : Int) : Int := if rE b = 0 then x else 0
def rR (b : List Int) (l : List Int) : List Int := if rE b = 0 then l else []
theorem sizeR_le (f : Int) : 0 ≤ sizeR f ∧ sizeR f ≤ 16 := by
  cases h : fIs f with
  | true =>
    have hn := fIs_t.1 h
    have := tab_le f.toNat (by omega)
    rw [Int.toNat_of_nonneg hn.1] at this
    omega
  | false => unfold sizeR; rw [h]; exact ⟨Int.le_refl _, show (0 : Int) ≤ 16 by decide⟩
theorem lawK8 : ∀ k < 40, fBits (k : Nat) = bitsR (k : Nat) ∧ fSize (k : Nat) = sizeR (k : Nat) ∧ fMask (k : Nat) = maskR (k : Nat) := by decide +kernel
theorem law8 (f : Int) : fBits f = bitsR f ∧ fSize f = sizeR f ∧ fMask f = maskR f := by
  cases h : fIs f with
  | true =>
    have hn := fIs_t.1 h
    have := lawK8 f.toNat (by omega)
    rwa [Int.toNat_of_nonneg hn.1] at this
  | false =>
    unfold fBits bitsR fSize sizeR fMask maskR; rw [h]; exact ⟨rfl, rfl, rfl⟩
theorem kB {b : List Int} (hc : decC b = 32768) : ofOk (decC b) (decF b) = fIs (decF b) ∧ ofMask (decC b) (decF b) = maskR (decF b) ∧ decA b = 4 ∧ decX b = 0 ∧ decS b = sizeR (decF b) ∧ decK b = decide (b.getD 3 0 = (if decH b = true then 2 else 1) * sizeR (decF b)) := by
  have hl := law8 (decF b)
  have hz : ofSize (decC b) (decF b) = sizeR (decF b) := by unfold ofSize; rw [if_neg (by omega)]; exact hl.2.1
  have he : ofExtra (decC b) = false := decide_eq_false (by omega)
  refine ⟨?_, ?_, if_neg (by omega), if_neg (by omega), ?_, ?_⟩
  · unfold ofOk; rw [if_neg (by omega), decide_eq_true hc, Bool.and_true]
  · unfold ofMask; rw [if_neg (by omega)]; exact hl.2.2
  · unfold decS longS; rw [he, hz]; rfl
  · unfold decK longK; rw [he, hz]; rfl
theorem kE {b : List Int} (hc : decC b = 65535) (hf : 0 ≤ decF b ∧ decF b ≤ 127) : ofOk (decC b) (decF b) = true ∧ ofMask (decC b) (decF b) = true ∧ decA b = 8 ∧ decX b = numL ((b.drop 4).take 4) ∧ decS b = (b.getD 3 0 - 4).tdiv (if decH b = true then 2 else 1) ∧ decK b = (decide (0 ≤ b.getD 3 0 - 4) && decide ((b.getD 3 0 - 4).tmod (if decH b = true then 2 else 1) = 0) && decide ((b.getD 3 0 - 4).tdiv (if decH b = true then 2 else 1) ≤ 100)) := by
  have hz : ofSize (decC b) (decF b) = 100 := if_pos hc
  have he : ofExtra (decC b) = true := decide_eq_true hc
  refine ⟨?_, if_pos hc, if_pos hc, if_pos hc, ?_, ?_⟩
  · unfold ofOk; rw [if_pos hc, decide_eq_true hf.1, decide_eq_true hf.2]; rfl
  · unfold decS longS; rw [he]; rfl
  · unfold decK longK; rw [he, hz]; rfl
theorem rE_ok {b : List Int} (h4 : ¬ b.length < 4) (hok : ofOk (decC b) (decF b) = true) (hm : decH b = true → ofMask (decC b) (decF b) = true) (hk : decK b = true) (hl : ¬ (b.length : Int) - 4 < b.getD 3 0) : rE b = refW (decC b) (decF b) (decH b) (decV b) (decM b) := by
  unfold rE
  rw [if_neg h4, if_neg (by rw [hok]; decide), if_neg (fun h => by rw [hm h.1] at h; exact absurd h.2 (by decide)), if_neg (fun h => h.elim (by rw [hk]; decide) hl)]
theorem rE_len {b : List Int} (h4 : ¬ b.length < 4) (hok : ofOk (decC b) (decF b) = true) (hm : decH b = true → ofMask (decC b) (decF b) = true) (hk : decK b = false ∨ (b.length : Int) - 4 < b.getD 3 0) : rE b = 1026 := by
  unfold rE
  rw [if_neg h4, if_neg (by rw [hok]; decide), if_neg (fun h => by rw [hm h.1] at h; exact absurd h.2 (by decide)), if_pos hk]
end Go.Eng
