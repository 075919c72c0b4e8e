/- Contracts of functions of the given program, told by plain Lean functions. No condition. -/
import Derived.Test.YtmbcgankddgpjaaGreatDoorProg
import Derived.Test.YtmbcgankddgpjaaGreatDoorEArg
import Derived.KernelRfl
import Derived.Test.YtmbcgankddgpjaaGreatDoorR4
namespace Go.Eng
open Go.Proofs
set_option linter.unusedVariables false
set_option linter.unusedSimpArgs false
set_option maxRecDepth 100000
set_option maxHeartbeats 1000000
def ir_r01_Right : IR :=
(.seq
(.keep [0]
(.reg (oD 2 (.mov cF) ::
[])))
(.seq
(.seq
(.reg (oD 3 (.mov (cI 0)) ::
[]))
(.block 0
(.loop
(.seq
(.seq
(.keep [0, 3]
(.reg (oM 4 3 ::
oM 5 0 ::
oD 6 (.len (.t 5)) ::
oD 7 (.bin .lss (.t 4) (.t 6)) ::
[])))
(.cond (.t 7)
.skip
(.exit 0)))
(.seq
(.block 1
(.seq
(.keep [0, 3]
(.reg (oM 10 0 ::
oM 11 3 ::
oD 12 (.indexSl 1 (.t 10) (.t 11)) ::
oL 13 12 ::
oD 14 (.bin .eql (.t 13) (cI 0)) ::
oM 15 14 ::
oF 15 16 (.mov (.t 0)) ::
oF 15 17 (.mov (.t 3)) ::
oF 15 18 (.indexSl 1 (.t 16) (.t 17)) ::
oF 15 19 (.load none (.t 18)) ::
oF 15 20 (.bin .gtr (.t 19) (cI 8)) ::
oD 21 (.pick (.t 15) cT (.t 20)) ::
oM 22 21 ::
oF 22 23 (.mov (.t 0)) ::
oF 22 24 (.mov (.t 3)) ::
oF 22 25 (.indexSl 1 (.t 23) (.t 24)) ::
oF 22 26 (.load none (.t 25)) ::
oF 22 27 (.bin .lss (.t 26) (cI (-64))) ::
oD 28 (.pick (.t 22) cT (.t 27)) ::
[])))
(.cond (.t 28)
(.seq
(.keep []
(.reg (oD 2 (.mov cF) ::
[])))
.ret)
.skip)))
(.keep [0, 3]
(.reg (oM 8 3 ::
oD 9 (.bin .add (.t 8) (cI 1)) ::
oM 3 9 ::
[]))))))))
(.seq
(.keep [0]
(.reg (oM 29 0 ::
oD 30 (.len (.t 29)) ::
oD 31 (.bin .leq (.t 30) (cI 64)) ::
oM 2 31 ::
[])))
.ret)))
def rd_r01_Right : List RD := [.tmp 2 true none]
theorem ok_r01_Right : fnOk Tryz.prog Tryz.f198 ir_r01_Right rd_r01_Right = true := by kernel_rfl
def S_r01_Right : List AV → List Obj → Option (Prop × AV)
  | [.imm (.int .i64) w], [] => some ((True, .bool (rightF w)))
  | _, _ => none
theorem snd_r01_Right : SoundS Tryz.prog 198 (RoF S_r01_Right).sum := by
  refine ro_fn Tryz.func198 ok_r01_Right (env_nil _) fun args objs p v e => ?_
  unfold S_r01_Right at e
  split at e
  · rename_i w
    cases e
    refine ⟨rfl, fun hw ho hp => ?_⟩
    change List Int at w
    have hl : w.length ≤ maxLen := (hw (.imm (.int .i64) w) (by simp)).2
    unfold maxLen at hl
    repeat' (intro t ht; first | (cases t <;> first | (cases ht; done) | ((try simp only [bn_s] at ht); (try simp only [nd_s] at ht))) | (refine ht ?_ ?_ <;> clear ht) | (refine ht.1 ?_ ?_ <;> clear ht) | (refine ht ?_; clear ht))
    all_goals (intro r h1 h2; clear h1; refine h2 ⟨[0, 3], Nat, (fun i => i ≤ w.length ∧ w.all okW = (w.drop i).all okW), fun i => [.imm (.int .i64) w, .int .i64 i], fun _ => [], fun i => w.length - i, ⟨0, ⟨Nat.zero_le _, rfl⟩, rfl, rfl⟩, ?_⟩; clear h2)
    rintro i ⟨hi, he⟩
    repeat' (intro t ht; first | (cases t <;> first | (cases ht; done) | ((try simp only [bn_s] at ht); (try simp only [nd_s] at ht))) | (refine ht ?_ ?_ <;> clear ht) | (refine ht.1 ?_ ?_ <;> clear ht) | (refine ht ?_; clear ht))
    all_goals first
      | ((try simp only [nd_s, bn_s, mm_s] at *); omega)
      | (have hge : w.length ≤ i := by omega
         rw [List.drop_of_length_le hge] at he
         refine ⟨?_, rfl⟩; unfold rightF; rw [he, List.all_nil, Bool.and_true]
         congr 2; exact propext (by omega))
      | (have hlt : i < w.length := by omega
         rw [drop_step hlt 0, List.all_cons] at he
         first
           | (have hk : okW (w.getD i 0) = false := okW_f.2 (by omega)
              refine ⟨?_, rfl⟩; unfold rightF; rw [he, hk]; simp; done)
           | (have hk : okW (w.getD i 0) = true := okW_t.2 (by omega)
              rw [hk, Bool.true_and] at he
              exact ⟨i + 1, ⟨hlt, he⟩, by (try simp only [nd_s, bn_s, mm_s] at *); omega, rfl, rfl⟩))
      | trace_state
  · cases e
def ir_r01_Size : IR :=
(.seq
(.keep [0]
(.reg (oD 2 (.mov (cI 0)) ::
[])))
(.seq
(.reg (oD 3 (.mov (cI 0)) ::
[]))
(.seq
(.seq
(.reg (oD 4 (.mov (cI 0)) ::
[]))
(.block 0
(.loop
(.seq
(.seq
(.keep [0, 3, 4]
(.reg (oM 5 4 ::
oM 6 0 ::
oD 7 (.len (.t 6)) ::
oD 8 (.bin .lss (.t 5) (.t 7)) ::
oM 9 8 ::
oT 9 10 (.mov (.t 0)) ::
oT 9 11 (.call false (.f 198) [(.t 10)]) ::
oD 12 (.pick (.t 9) (.t 11) cF) ::
[])))
(.cond (.t 12)
.skip
(.exit 0)))
(.seq
(.block 1
(.seq
(.keep [0, 3, 4]
(.reg (oM 15 0 ::
oM 16 4 ::
oD 17 (.indexSl 1 (.t 15) (.t 16)) ::
oL 18 17 ::
oD 19 (.bin .gtr (.t 18) (cI 0)) ::
[])))
(.cond (.t 19)
(.keep [0, 3, 4]
(.reg (oM 20 3 ::
oM 21 0 ::
oM 22 4 ::
oD 23 (.indexSl 1 (.t 21) (.t 22)) ::
oL 24 23 ::
oD 25 (.bin .add (.t 20) (.t 24)) ::
oM 3 25 ::
[])))
(.keep [0, 3, 4]
(.reg (oM 26 3 ::
oM 27 0 ::
oM 28 4 ::
oD 29 (.indexSl 1 (.t 27) (.t 28)) ::
oL 30 29 ::
oD 31 (.bin .sub (.t 26) (.t 30)) ::
oM 3 31 ::
[]))))))
(.keep [0, 3, 4]
(.reg (oM 13 4 ::
oD 14 (.bin .add (.t 13) (cI 1)) ::
oM 4 14 ::
[]))))))))
(.seq
(.keep [3]
(.reg (oM 32 3 ::
oM 2 32 ::
[])))
.ret))))
def rd_r01_Size : List RD := [.tmp 2 true none]
theorem ok_r01_Size : fnOk Tryz.prog Tryz.f150 ir_r01_Size rd_r01_Size = true := by kernel_rfl
def S_r01_Size : List AV → List Obj → Option (Prop × AV)
  | [.imm (.int .i64) w], [] => some ((True, .int .i64 (sizeW w)))
  | _, _ => none
theorem snd_r01_Size : SoundS Tryz.prog 150 (RoF S_r01_Size).sum := by
  refine ro_fn Tryz.func150 ok_r01_Size (env_cons (s := RoF S_r01_Right) snd_r01_Right (env_nil _)) fun args objs p v e => ?_
  unfold S_r01_Size at e
  split at e
  · rename_i w
    cases e
    refine ⟨rfl, fun hw ho hp => ?_⟩
    change List Int at w
    repeat' (intro t ht; first | (cases t <;> first | (cases ht; done) | ((try simp only [bn_s] at ht); (try simp only [nd_s] at ht))) | (refine ht ?_ ?_ <;> clear ht) | (refine ht.1 ?_ ?_ <;> clear ht) | (refine ht ?_; clear ht))
    all_goals first
      | (intro r h1 h2; clear h1; refine h2 ⟨[0, 3, 4], Nat, (fun i => i ≤ w.length ∧ (rightF w = false → i = 0)), fun i => [.imm (.int .i64) w, .int .i64 (sumT absI w i), .int .i64 i], fun _ => [], fun i => w.length - i, ⟨0, ⟨Nat.zero_le _, fun _ => rfl⟩, rfl, rfl⟩, ?_⟩; clear h2)
    rintro i ⟨hi, hz⟩
    repeat' (intro t ht; first | (cases t <;> first | (cases ht; done) | ((try simp only [bn_s] at ht); (try simp only [nd_s] at ht))) | (refine ht ?_ ?_ <;> clear ht) | (refine ht.1 ?_ ?_ <;> clear ht) | (refine ht ?_; clear ht))
    all_goals first
      | exact True.intro
      | ((try simp only [nd_s, bn_s, mm_s] at *); omega)
      | (have hge : w.length ≤ i := by omega
         refine ⟨?_, rfl⟩; unfold sizeW; rw [sumT_end absI hge]
         cases hr : rightF w with
         | true => rfl
         | false => have h0 := hz hr; have : w = [] := List.length_eq_zero_iff.1 (by omega); subst this; rfl)
      | (have hr : rightF w = false := by assumption
         have h0 := hz hr; subst h0
         refine ⟨?_, rfl⟩; unfold sizeW; rw [hr]; rfl)
      | (have hr : rightF w = true := by assumption
         have hl := (rightF_t.1 hr).1
         have hlt : i < w.length := by omega
         have hs := sumT_abs hr i
         have hk := (rightF_t.1 hr).2 _ (getD_mem' hlt 0)
         have ha := absI_le (n := w.getD i 0)
         first
           | ((try simp only [nd_s, bn_s, mm_s] at *); omega)
           | (refine ⟨i + 1, ⟨hlt, fun h => by rw [hr] at h; cases h⟩, by (try simp only [nd_s, bn_s, mm_s] at *); omega, ?_, rfl⟩
              dsimp only
              rw [sumT_step absI hlt]
              first
                | (rw [absI_nn (by omega)]; done)
                | (rw [absI_nn (by omega)]; rfl)
                | (rw [absI_neg (by omega)]; rfl)
                | (rw [absI_neg (by omega), ← Int.sub_eq_add_neg])))
      | trace_state
  · cases e
def ir_r01_Count : IR :=
(.seq
(.keep [0]
(.reg (oD 2 (.mov (cI 0)) ::
[])))
(.seq
(.reg (oD 3 (.mov (cI 0)) ::
[]))
(.seq
(.seq
(.reg (oD 4 (.mov (cI 0)) ::
[]))
(.block 0
(.loop
(.seq
(.seq
(.keep [0, 3, 4]
(.reg (oM 5 4 ::
oM 6 0 ::
oD 7 (.len (.t 6)) ::
oD 8 (.bin .lss (.t 5) (.t 7)) ::
oM 9 8 ::
oT 9 10 (.mov (.t 0)) ::
oT 9 11 (.call false (.f 198) [(.t 10)]) ::
oD 12 (.pick (.t 9) (.t 11) cF) ::
[])))
(.cond (.t 12)
.skip
(.exit 0)))
(.seq
(.block 1
(.seq
(.keep [0, 3, 4]
(.reg (oM 15 0 ::
oM 16 4 ::
oD 17 (.indexSl 1 (.t 15) (.t 16)) ::
oL 18 17 ::
oD 19 (.bin .gtr (.t 18) (cI 0)) ::
[])))
(.cond (.t 19)
(.reg (oM 20 3 ::
oD 21 (.bin .add (.t 20) (cI 1)) ::
oM 3 21 ::
[]))
.skip)))
(.keep [0, 3, 4]
(.reg (oM 13 4 ::
oD 14 (.bin .add (.t 13) (cI 1)) ::
oM 4 14 ::
[]))))))))
(.seq
(.keep [3]
(.reg (oM 22 3 ::
oM 2 22 ::
[])))
.ret))))
def rd_r01_Count : List RD := [.tmp 2 true none]
theorem ok_r01_Count : fnOk Tryz.prog Tryz.f212 ir_r01_Count rd_r01_Count = true := by kernel_rfl
def S_r01_Count : List AV → List Obj → Option (Prop × AV)
  | [.imm (.int .i64) w], [] => some ((True, .int .i64 (countW w)))
  | _, _ => none
theorem snd_r01_Count : SoundS Tryz.prog 212 (RoF S_r01_Count).sum := by
  refine ro_fn Tryz.func212 ok_r01_Count (env_cons (s := RoF S_r01_Right) snd_r01_Right (env_nil _)) fun args objs p v e => ?_
  unfold S_r01_Count at e
  split at e
  · rename_i w
    cases e
    refine ⟨rfl, fun hw ho hp => ?_⟩
    change List Int at w
    repeat' (intro t ht; first | (cases t <;> first | (cases ht; done) | ((try simp only [bn_s] at ht); (try simp only [nd_s] at ht))) | (refine ht ?_ ?_ <;> clear ht) | (refine ht.1 ?_ ?_ <;> clear ht) | (refine ht ?_; clear ht))
    all_goals first
      | (intro r h1 h2; clear h1; refine h2 ⟨[0, 3, 4], Nat, (fun i => i ≤ w.length ∧ (rightF w = false → i = 0)), fun i => [.imm (.int .i64) w, .int .i64 (sumT oneI w i), .int .i64 i], fun _ => [], fun i => w.length - i, ⟨0, ⟨Nat.zero_le _, fun _ => rfl⟩, rfl, rfl⟩, ?_⟩; clear h2)
    rintro i ⟨hi, hz⟩
    repeat' (intro t ht; first | (cases t <;> first | (cases ht; done) | ((try simp only [bn_s] at ht); (try simp only [nd_s] at ht))) | (refine ht ?_ ?_ <;> clear ht) | (refine ht.1 ?_ ?_ <;> clear ht) | (refine ht ?_; clear ht))
    all_goals first
      | exact True.intro
      | ((try simp only [nd_s, bn_s, mm_s] at *); omega)
      | (have hge : w.length ≤ i := by omega
         refine ⟨?_, rfl⟩; unfold countW; rw [sumT_end oneI hge]
         cases hr : rightF w with
         | true => rfl
         | false => have h0 := hz hr; have : w = [] := List.length_eq_zero_iff.1 (by omega); subst this; rfl)
      | (have hr : rightF w = false := by assumption
         have h0 := hz hr; subst h0
         refine ⟨?_, rfl⟩; unfold countW; rw [hr]; rfl)
      | (have hr : rightF w = true := by assumption
         have hl := (rightF_t.1 hr).1
         have hlt : i < w.length := by omega
         have hs := sumT_one hr i
         first
           | ((try simp only [nd_s, bn_s, mm_s] at *); omega)
           | (refine ⟨i + 1, ⟨hlt, fun h => by rw [hr] at h; cases h⟩, by (try simp only [nd_s, bn_s, mm_s] at *); omega, ?_, rfl⟩
              dsimp only
              rw [sumT_step oneI hlt]
              first
                | (have e : oneI (w.getD i 0) = 1 := if_pos (by assumption)
                   rw [e]; rfl)
                | (have e : oneI (w.getD i 0) = 0 := if_neg (by assumption)
                   rw [e, Int.add_zero]; rfl)))
      | trace_state
  · cases e
theorem shl_div : ∀ k : Nat, k ≤ 7 → ∀ x : Int, 0 ≤ x → (x < (2 ^ (8 * k) : Nat) ↔ x.fdiv (2 ^ (8 * k)) = 0)
  | k, _, x, hx => by
    have hp : (0 : Int) < 2 ^ (8 * k) := Int.pow_pos (by decide)
    have e : ((2 ^ (8 * k) : Nat) : Int) = 2 ^ (8 * k) := by push_cast; rfl
    rw [e, Int.fdiv_eq_ediv_of_nonneg _ (Int.le_of_lt hp)]
    constructor
    · intro h; exact Int.ediv_eq_zero_of_lt hx h
    · intro h
      have := Int.lt_ediv_add_one_mul_self x hp
      rw [h] at this; omega
def fitsN (x n : Int) : Bool := decide (n = 8) || decide (x.fdiv (2 ^ (min (8 * n).toNat 64)) = 0)
theorem fits_eq {x : Int} (hx : 0 ≤ x) : ∀ k : Nat, 1 ≤ k → k ≤ 7 → decide (x < 1 * 2 ^ min (8 * (k : Int)).toNat IntKind.u64.bits) = fitsN x k
  | k, h1, h7 => by
    have e : min (8 * (k : Int)).toNat IntKind.u64.bits = 8 * k := by
      have : IntKind.u64.bits = 64 := rfl
      rw [this]; omega
    have e' : min (8 * (k : Int)).toNat 64 = 8 * k := by omega
    unfold fitsN
    rw [e, e', decide_eq_false (show ¬ (k : Int) = 8 by omega), Bool.false_or, Int.one_mul]
    rw [decide_eq_decide]
    have := shl_div k h7 x hx
    push_cast at this
    exact this
def ir_r01_Fits : IR :=
(.seq
(.keep [0, 1]
(.reg (oD 4 (.mov cF) ::
[])))
(.seq
(.keep [0, 1]
(.reg (oM 5 1 ::
oD 6 (.bin .eql (.t 5) (cI 8)) ::
oM 7 6 ::
oF 7 8 (.mov (.t 0)) ::
oF 7 9 (.mov (.t 1)) ::
oF 7 10 (.bin .mul (cI 8) (.t 9)) ::
oF 7 11 (.bin .shl (.c (.int .u64 1)) (.t 10)) ::
oF 7 12 (.bin .lss (.t 8) (.t 11)) ::
oD 13 (.pick (.t 7) cT (.t 12)) ::
oM 4 13 ::
[])))
.ret))
def rd_r01_Fits : List RD := [.tmp 4 true none]
theorem ok_r01_Fits : fnOk Tryz.prog Tryz.f213 ir_r01_Fits rd_r01_Fits = true := by kernel_rfl
def S_r01_Fits : List AV → List Obj → Option (Prop × AV)
  | [.int .u64 x, .int .i64 n], [] => some ((1 ≤ n ∧ n ≤ 8, .bool (fitsN x n)))
  | _, _ => none
theorem snd_r01_Fits : SoundS Tryz.prog 213 (RoF S_r01_Fits).sum := by
  refine ro_fn Tryz.func213 ok_r01_Fits (env_nil _) fun args objs p v e => ?_
  unfold S_r01_Fits at e
  split at e
  · rename_i x n
    cases e
    refine ⟨rfl, fun hw ho hp => ?_⟩
    have hx : IntKind.u64.min ≤ x ∧ x ≤ IntKind.u64.max := hw (.int .u64 x) (by simp)
    have hx0 : 0 ≤ x := hx.1
    obtain ⟨h1, h8⟩ := hp
    obtain ⟨k, rfl⟩ := Int.eq_ofNat_of_zero_le (show 0 ≤ n by omega)
    repeat' (intro t ht; first | (cases t <;> first | (cases ht; done) | ((try simp only [bn_s] at ht); (try simp only [nd_s] at ht))) | (refine ht ?_ ?_ <;> clear ht) | (refine ht.1 ?_ ?_ <;> clear ht) | (refine ht ?_; clear ht))
    all_goals first
      | exact True.intro
      | ((try simp only [nd_s, bn_s, mm_s] at *); omega)
      | (refine ⟨?_, rfl⟩; unfold fitsN; rw [decide_eq_true (by assumption)]; rfl)
      | (have hk : k = 1 ∨ k = 2 ∨ k = 3 ∨ k = 4 ∨ k = 5 ∨ k = 6 ∨ k = 7 := by omega
         rcases hk with rfl | rfl | rfl | rfl | rfl | rfl | rfl <;> decide)
      | (refine ⟨?_, rfl⟩; rw [← fits_eq hx0 k (by omega) (by omega)])
      | trace_state
  · cases e
theorem fitsN_put {x n : Int} : fitsN x n = false → n ≤ 8 → (n < 8 ∧ x.fdiv (2 ^ (min (8 * n).toNat 64)) ≠ 0) := fun h h8 => by
  unfold fitsN at h
  simp only [Bool.or_eq_false_iff, decide_eq_false_iff_not] at h
  exact ⟨by omega, h.2⟩
theorem fitsN_ok {x n : Int} : fitsN x n = true → ¬ (n < 8 ∧ x.fdiv (2 ^ (min (8 * n).toNat 64)) ≠ 0) := fun h k => by
  unfold fitsN at h
  simp only [Bool.or_eq_true, decide_eq_true_eq] at h
  rcases h with h | h
  · omega
  · exact k.2 h
theorem bytesN_zero (w : Int) : List.replicate w.toNat 0 = bytesN 0 w := by
  have : ∀ j : Nat, byteAt 0 w j = 0 := fun j => by unfold byteAt; rw [Int.zero_fdiv]; rfl
  unfold bytesN bytesT
  simp only [this, List.map_const', List.length_range]
def ir_r01_Put : IR :=
(.seq
(.keep [0, 1]
(.reg (oD 4 (.nilrow (.int .u8)) ::
oD 5 (.mov cF) ::
[])))
(.seq
(.seq
(.keep [0, 1]
(.reg (oM 9 0 ::
oD 10 (.call false (.f 198) [(.t 9)]) ::
oD 11 (.un .not (.t 10)) ::
oM 12 11 ::
oF 12 13 (.mov (.t 0)) ::
oF 12 14 (.call false (.f 212) [(.t 13)]) ::
oF 12 15 (.mov (.t 1)) ::
oF 12 16 (.len (.t 15)) ::
oF 12 17 (.bin .neq (.t 14) (.t 16)) ::
oD 18 (.pick (.t 12) cT (.t 17)) ::
[])))
(.cond (.t 18)
(.seq
(.keep []
(.reg (oD 4 (.nilrow (.int .u8)) ::
oD 5 (.mov cF) ::
[])))
.ret)
.skip))
(.seq
(.keep [0, 1]
(.reg (oD 6 (.nilrow (.int .u8)) ::
[])))
(.seq
(.reg (oD 7 (.mov (cI 0)) ::
[]))
(.seq
(.seq
(.reg (oD 8 (.mov (cI 0)) ::
[]))
(.block 0
(.loop
(.seq
(.seq
(.keep [0, 1, 6, 7, 8]
(.reg (oM 19 8 ::
oM 20 0 ::
oD 21 (.len (.t 20)) ::
oD 22 (.bin .lss (.t 19) (.t 21)) ::
[])))
(.cond (.t 22)
.skip
(.exit 0)))
(.seq
(.block 1
(.seq
(.seq
(.keep [0, 1, 6, 7, 8]
(.reg (oM 25 0 ::
oM 26 8 ::
oD 27 (.indexSl 1 (.t 25) (.t 26)) ::
oL 28 27 ::
oD 29 (.bin .lss (.t 28) (cI 0)) ::
[])))
(.cond (.t 29)
(.seq
(.keep [0, 1, 6, 7, 8]
(.reg (oM 30 6 ::
oM 31 0 ::
oM 32 8 ::
oD 33 (.indexSl 1 (.t 31) (.t 32)) ::
oL 34 33 ::
oD 35 (.un .neg (.t 34)) ::
oD 36 (.appendz (.int .u8) 1 (0 : Int) (.t 30) (.t 35)) ::
oM 6 36 ::
[])))
(.exit 1))
.skip))
(.seq
(.seq
(.keep [0, 1, 6, 7, 8]
(.regD ((oM 37 1, []) ::
(oM 38 7, [0]) ::
(oD 39 (.indexSl 1 (.t 37) (.t 38)), []) ::
(oL 40 39, []) ::
(oM 41 0, [0, 0, 0, 0]) ::
(oM 42 8, [0, 0, 0, 0, 0]) ::
(oD 43 (.indexSl 1 (.t 41) (.t 42)), [2, 0, 0, 0]) ::
(oL 44 43, [3, 0, 0, 0]) ::
(oD 45 (.call false (.f 213) [(.t 40), (.t 44)]), []) ::
(oD 46 (.un .not (.t 45)), []) ::
[])))
(.cond (.t 46)
(.seq
(.keep []
(.reg (oD 4 (.nilrow (.int .u8)) ::
oD 5 (.mov cF) ::
[])))
.ret)
.skip))
(.seq
(.keep [0, 1, 6, 7, 8]
(.regD ((oM 47 6, []) ::
(oM 48 1, [0]) ::
(oM 49 7, [0, 0]) ::
(oD 50 (.indexSl 1 (.t 48) (.t 49)), [2]) ::
(oL 51 50, [3]) ::
(oM 52 0, [0, 0, 0, 0, 0]) ::
(oM 53 8, [0, 0, 0, 0, 0, 0]) ::
(oD 54 (.indexSl 1 (.t 52) (.t 53)), [2, 0, 0, 0, 0]) ::
(oL 55 54, [3, 0, 0, 0, 0]) ::
(oD 56 (.call false (.f 119) [(.t 51), (.t 55)]), [8]) ::
(oD 57 (.append (.int .u8) 1 (.t 47) (.t 56)), []) ::
(oM 6 57, []) ::
[])))
(.keep [0, 1, 6, 7, 8]
(.reg (oM 58 7 ::
oD 59 (.bin .add (.t 58) (cI 1)) ::
oM 7 59 ::
[])))))))
(.keep [0, 1, 6, 7, 8]
(.reg (oM 23 8 ::
oD 24 (.bin .add (.t 23) (cI 1)) ::
oM 8 24 ::
[]))))))))
(.seq
(.keep [6]
(.reg (oM 60 6 ::
oM 4 60 ::
oD 5 (.mov cT) ::
[])))
.ret))))))
def rd_r01_Put : List RD := [.tmp 4 true (some (.int .u8)), .tmp 5 true none]
theorem ok_r01_Put : fnOk Tryz.prog Tryz.f180 ir_r01_Put rd_r01_Put = true := by kernel_rfl
def S_r01_Put : List AV → List Obj → Option (Prop × AV)
  | [.imm (.int .i64) w, .imm (.int .u64) xs], [] => some ((True, .tup [.imm (.int .u8) (putB w xs), .bool (putK w xs)]))
  | _, _ => none
theorem snd_r01_Put : SoundS Tryz.prog 180 (RoF S_r01_Put).sum := by
  refine ro_fn Tryz.func180 ok_r01_Put (env_cons (s := RoF S_r01_Right) snd_r01_Right (env_cons (s := RoF S_r01_Count) snd_r01_Count (env_cons (s := RoF S_r01_Fits) snd_r01_Fits (env_cons (s := RwF S_r01_Num) snd_r01_Num (env_nil _))))) fun args objs p v e => ?_
  unfold S_r01_Put at e
  split at e
  · rename_i w xs
    cases e
    refine ⟨rfl, fun hw ho hp => ?_⟩
    change List Int at w
    change List Int at xs
    have hx : xs.length ≤ maxLen := (hw (.imm (.int .u64) xs) (by simp)).2
    unfold maxLen at hx
    repeat' (intro t ht; first | (cases t <;> first | (cases ht; done) | ((try simp only [bn_s] at ht); (try simp only [nd_s] at ht))) | (refine ht ?_ ?_ <;> clear ht) | (refine ht.1 ?_ ?_ <;> clear ht) | (refine ht ?_; clear ht))
    all_goals first
      | exact True.intro
      | (intro r h1 h2; clear h1; refine h2 ⟨[0, 1, 6, 7, 8], Nat × Nat × List Int, (fun a => a.1 ≤ w.length ∧ (a.2.2.length : Int) = sumT absI w a.1 ∧ sumT oneI w a.1 = a.2.1 ∧ putA w xs [] = putA (w.drop a.1) (xs.drop a.2.1) a.2.2), fun a => [.imm (.int .i64) w, .imm (.int .u64) xs, .own 0, .int .i64 a.2.1, .int .i64 a.1], fun a => [.row false (.int .u8) a.2.2], fun a => w.length - a.1, ⟨(0, 0, []), ⟨Nat.zero_le _, rfl, rfl, rfl⟩, rfl, rfl⟩, ?_⟩; clear h2)
      | ((try simp only [nd_s, bn_s, mm_s] at *); omega)
      | (have hn : ¬ (rightF w = true ∧ countW w = xs.length) := fun h => by simp_all
         refine ⟨?_, rfl⟩; unfold putB putK putF; rw [if_neg hn]; rfl)
      | trace_state
    rintro ⟨i, k, b⟩ ⟨hi, hb, hk, he⟩
    dsimp only at hi hb hk he
    have hr : rightF w = true := by assumption
    have hc : countW w = xs.length := by assumption
    have hsum : (w.map oneI).sum = xs.length := by unfold countW at hc; rwa [if_pos hr] at hc
    have hl := (rightF_t.1 hr).1
    have hs := sumT_abs hr i
    have h1 := sumT_one hr i
    repeat' (intro t ht; first | (cases t <;> first | (cases ht; done) | ((try simp only [bn_s] at ht); (try simp only [nd_s] at ht))) | (refine ht ?_ ?_ <;> clear ht) | (refine ht.1 ?_ ?_ <;> clear ht) | (refine ht ?_; clear ht))
    all_goals first
      | ((try simp only [nd_s, bn_s, mm_s] at *); omega)
      | (have hge : w.length ≤ i := by omega
         rw [List.drop_of_length_le hge] at he
         have hf : putF w xs = some b := by unfold putF; rw [if_pos ⟨hr, hc⟩, he]; rfl
         refine ⟨?_, rfl⟩; unfold putB putK; rw [hf]; rfl)
      | skip
    all_goals have hlt : i < w.length := by omega
    all_goals have hkk := (rightF_t.1 hr).2 _ (getD_mem' (α := Int) hlt 0)
    all_goals first
      | ((try simp only [nd_s, bn_s, mm_s] at *); omega)
      | (have hn : w.getD i 0 < 0 := by assumption
         have ha := absI_neg hn
         have h0 : oneI (w.getD i 0) = 0 := if_neg (by omega)
         have hbl := bytesN_len (n := 0) (w := 0 - w.getD i 0) (by omega)
         first
           | ((try simp only [nd_s, bn_s, mm_s] at *); omega)
           | (refine ⟨(i + 1, k, b ++ bytesN 0 (0 - w.getD i 0)), ⟨hlt, ?_, ?_, ?_⟩, by dsimp only; omega, rfl, ?_⟩
              · rw [sumT_step absI hlt, ha]; simp only [List.length_append]; omega
              · rw [sumT_step oneI hlt, h0]; dsimp only; omega
              · rw [he]; exact putA_neg hlt hn
              · dsimp only; rw [← bytesN_zero]; rfl))
      | (have hn : ¬ w.getD i 0 < 0 := by assumption
         have hlt2 := sumT_lt (w := w) (i := i) hlt (by omega)
         have h2 : k < xs.length := by omega
         first
           | ((try simp only [nd_s, bn_s, mm_s] at *); omega)
           | (have h8 := fitsN_put (by assumption) hkk.2.1
              have hf : putF w xs = none := by unfold putF; rw [if_pos ⟨hr, hc⟩, he]; exact putA_none hlt hn h2 h8.1 h8.2
              refine ⟨?_, rfl⟩; unfold putB putK; rw [hf]; rfl)
           | (have h8 := fitsN_ok (by assumption)
              have ha := absI_nn hn
              have h0 : oneI (w.getD i 0) = 1 := if_pos (by omega)
              have hbl := bytesN_len (n := xs.getD k 0) (w := w.getD i 0) (by omega)
              first
                | (simp only [cast_rfl]; (try simp only [nd_s, bn_s, mm_s] at *); omega)
                | (refine ⟨(i + 1, k + 1, b ++ bytesN (xs.getD k 0) (w.getD i 0)), ⟨hlt, ?_, ?_, ?_⟩, by dsimp only; omega, rfl, rfl⟩
                   · rw [sumT_step absI hlt, ha]; simp only [List.length_append]; omega
                   · rw [sumT_step oneI hlt, h0]; dsimp only; omega
                   · rw [he]; exact putA_some hlt hn h2 h8)))
      | trace_state
  · cases e
theorem slice_eq {α : Type} (b : List α) (p : Nat) {n : Int} (h : 0 ≤ n) : (b.take ((p : Int) + n).toNat).drop p = (b.drop p).take n.toNat := by
  have e : ((p : Int) + n).toNat = p + n.toNat := by omega
  rw [e, List.drop_take]; congr 1; omega
theorem zeroT_step {b : List Int} {p k : Nat} (h : k < b.length) (hz : zeroL ((b.drop p).take (k - p)) = true) (hp : p ≤ k) (e : b.getD k 0 = 0) : zeroL ((b.drop p).take (k + 1 - p)) = true := by
  have hk : k - p < (b.drop p).length := by rw [List.length_drop]; omega
  rw [show k + 1 - p = (k - p) + 1 by omega, List.take_succ_eq_append_getElem hk]
  unfold zeroL at hz ⊢
  rw [List.all_append, hz, Bool.true_and, List.getElem_drop]
  have : b[p + (k - p)]'(by omega) = b.getD k 0 := by
    rw [List.getD_eq_getElem?_getD, List.getElem?_eq_getElem h, Option.getD_some]; congr 1; omega
  rw [List.all_cons, List.all_nil, this, e]; rfl
theorem zeroT_odd {b : List Int} {p k n : Nat} (h : k < b.length) (hp : p ≤ k) (hk : k < p + n) (e : ¬ b.getD k 0 = 0) : zeroL ((b.drop p).take n) = false := by
  unfold zeroL
  rw [List.all_eq_false]
  refine ⟨b.getD k 0, ?_, by simpa using e⟩
  rw [List.mem_take_iff_getElem]
  refine ⟨k - p, by rw [List.length_drop]; omega, ?_⟩
  rw [List.getElem_drop, List.getD_eq_getElem?_getD, List.getElem?_eq_getElem h, Option.getD_some]
  congr 1; omega
def ir_r01_Get : IR :=
(.seq
(.keep [0, 1]
(.reg (oD 4 (.nilrow (.int .u64)) ::
oD 5 (.mov (cI 0)) ::
[])))
(.seq
(.seq
(.reg (oM 11 0 ::
oD 12 (.call false (.f 198) [(.t 11)]) ::
oD 13 (.un .not (.t 12)) ::
[]))
(.cond (.t 13)
(.seq
(.reg (oD 4 (.nilrow (.int .u64)) ::
oD 5 (.mov (cI 2)) ::
[]))
.ret)
.skip))
(.seq
(.keep [0, 1]
(.reg (oD 6 (.nilrow (.int .u64)) ::
[])))
(.seq
(.reg (oD 7 (.mov (cI 0)) ::
[]))
(.seq
(.seq
(.reg (oD 8 (.mov (cI 0)) ::
[]))
(.block 0
(.loop
(.seq
(.seq
(.keep [0, 1, 6, 7, 8]
(.reg (oM 14 8 ::
oM 15 0 ::
oD 16 (.len (.t 15)) ::
oD 17 (.bin .lss (.t 14) (.t 16)) ::
[])))
(.cond (.t 17)
.skip
(.exit 0)))
(.seq
(.block 1
(.seq
(.keep [0, 1, 6, 7, 8]
(.reg (oM 20 0 ::
oM 21 8 ::
oD 22 (.indexSl 1 (.t 20) (.t 21)) ::
oL 23 22 ::
oM 9 23 ::
[])))
(.seq
(.seq
(.reg (oM 24 9 ::
oD 25 (.bin .lss (.t 24) (cI 0)) ::
[]))
(.cond (.t 25)
(.keep [0, 1, 6, 7, 8, 9]
(.reg (oM 26 9 ::
oD 27 (.un .neg (.t 26)) ::
oM 9 27 ::
[])))
.skip))
(.seq
(.seq
(.keep [0, 1, 6, 7, 8, 9]
(.reg (oM 28 1 ::
oD 29 (.len (.t 28)) ::
oM 30 7 ::
oD 31 (.bin .sub (.t 29) (.t 30)) ::
oM 32 9 ::
oD 33 (.bin .lss (.t 31) (.t 32)) ::
[])))
(.cond (.t 33)
(.seq
(.keep []
(.reg (oD 4 (.nilrow (.int .u64)) ::
oD 5 (.mov (cI 1)) ::
[])))
.ret)
.skip))
(.seq
(.seq
(.keep [0, 1, 6, 7, 8, 9]
(.reg (oM 34 0 ::
oM 35 8 ::
oD 36 (.indexSl 1 (.t 34) (.t 35)) ::
oL 37 36 ::
oD 38 (.bin .gtr (.t 37) (cI 0)) ::
[])))
(.cond (.t 38)
(.keep [0, 1, 6, 7, 8, 9]
(.reg (oM 39 6 ::
oM 40 1 ::
oM 41 7 ::
oM 42 7 ::
oM 43 9 ::
oD 44 (.bin .add (.t 42) (.t 43)) ::
oD 45 (.slice 1 (.t 40) (some (.t 41)) (some (.t 44)) none) ::
oD 46 (.call false (.f 85) [(.t 45)]) ::
oD 47 (.sliceAll (.int .u64) 1 [(0, 1, (.t 46))]) ::
oD 48 (.append (.int .u64) 8 (.t 39) (.t 47)) ::
oM 6 48 ::
[])))
.skip))
(.seq
(.seq
(.keep [0, 1, 6, 7, 8, 9]
(.reg (oM 49 7 ::
oM 10 49 ::
[])))
(.block 2
(.loop
(.seq
(.seq
(.keep [0, 1, 6, 7, 8, 9, 10]
(.reg (oM 50 10 ::
oM 51 7 ::
oM 52 9 ::
oD 53 (.bin .add (.t 51) (.t 52)) ::
oD 54 (.bin .lss (.t 50) (.t 53)) ::
oM 55 54 ::
oT 55 56 (.mov (.t 0)) ::
oT 55 57 (.mov (.t 8)) ::
oT 55 58 (.indexSl 1 (.t 56) (.t 57)) ::
oT 55 59 (.load none (.t 58)) ::
oT 55 60 (.bin .lss (.t 59) (cI 0)) ::
oD 61 (.pick (.t 55) (.t 60) cF) ::
[])))
(.cond (.t 61)
.skip
(.exit 2)))
(.seq
(.block 3
(.seq
(.keep [0, 1, 6, 7, 8, 9, 10]
(.reg (oM 64 1 ::
oM 65 10 ::
oD 66 (.indexSl 1 (.t 64) (.t 65)) ::
oL 67 66 ::
oD 68 (.bin .neq (.t 67) (.c (.int .u8 0))) ::
[])))
(.cond (.t 68)
(.seq
(.reg (oD 4 (.nilrow (.int .u64)) ::
oD 5 (.mov (cI 2)) ::
[]))
.ret)
.skip)))
(.keep [0, 1, 6, 7, 8, 9, 10]
(.reg (oM 62 10 ::
oD 63 (.bin .add (.t 62) (cI 1)) ::
oM 10 63 ::
[]))))))))
(.keep [0, 1, 6, 7, 8, 9]
(.reg (oM 69 7 ::
oM 70 9 ::
oD 71 (.bin .add (.t 69) (.t 70)) ::
oM 7 71 ::
[])))))))))
(.keep [0, 1, 6, 7, 8]
(.reg (oM 18 8 ::
oD 19 (.bin .add (.t 18) (cI 1)) ::
oM 8 19 ::
[]))))))))
(.seq
(.keep [6]
(.reg (oM 72 6 ::
oM 4 72 ::
oD 5 (.mov (cI 0)) ::
[])))
.ret))))))
def rd_r01_Get : List RD := [.tmp 4 true (some (.int .u64)), .tmp 5 true none]
theorem ok_r01_Get : fnOk Tryz.prog Tryz.f151 ir_r01_Get rd_r01_Get = true := by kernel_rfl
def S_r01_Get : List AV → List Obj → Option (Prop × AV)
  | [.imm (.int .i64) w, .imm (.int .u8) b], [] => some ((True, .tup [.imm (.int .u64) (getL w b), .int .i64 (getK w b)]))
  | _, _ => none
theorem snd_r01_Get : SoundS Tryz.prog 151 (RoF S_r01_Get).sum := by
  refine ro_fn Tryz.func151 ok_r01_Get (env_cons (s := RoF S_r01_Right) snd_r01_Right (env_cons (s := RoF S_r01_Value) snd_r01_Value (env_nil _))) fun args objs p v e => ?_
  unfold S_r01_Get at e
  split at e
  · rename_i w b
    cases e
    refine ⟨rfl, fun hw ho hp => ?_⟩
    change List Int at w
    change List Int at b
    have hb : b.length ≤ maxLen := (hw (.imm (.int .u8) b) (by simp)).2
    unfold maxLen at hb
    repeat' (intro t ht; first | (cases t <;> first | (cases ht; done) | ((try simp only [bn_s] at ht); (try simp only [nd_s] at ht))) | (refine ht ?_ ?_ <;> clear ht) | (refine ht.1 ?_ ?_ <;> clear ht) | (refine ht ?_; clear ht))
    all_goals first
      | exact True.intro
      | (intro r h1 h2; clear h1; refine h2 ⟨[0, 1, 6, 7, 8], Nat × Nat × List Int, (fun a => a.1 ≤ w.length ∧ a.2.1 ≤ b.length ∧ a.2.2.length ≤ a.1 ∧ getA w b [] = getA (w.drop a.1) (b.drop a.2.1) a.2.2), fun a => [.imm (.int .i64) w, .imm (.int .u8) b, .own 0, .int .i64 a.2.1, .int .i64 a.1], fun a => [.row false (.int .u64) a.2.2], fun a => w.length - a.1, ⟨(0, 0, []), ⟨Nat.zero_le _, Nat.zero_le _, Nat.zero_le _, rfl⟩, rfl, rfl⟩, ?_⟩; clear h2)
      | (have hr : rightF w = false := by assumption
         have hf : getF w b = ([], 2) := by unfold getF; rw [hr]; rfl
         refine ⟨?_, rfl⟩; unfold getL getK; rw [hf])
    rintro ⟨i, p, o⟩ ⟨hi, hp, ho, he⟩
    dsimp only at hi hp ho he
    have hr : rightF w = true := by assumption
    have hl := (rightF_t.1 hr).1
    have hdl : (b.drop p).length = b.length - p := List.length_drop
    repeat' (intro t ht; first | (cases t <;> first | (cases ht; done) | ((try simp only [bn_s] at ht); (try simp only [nd_s] at ht); (try (exfalso; first | contradiction | omega)))) | (refine ht ?_ ?_ <;> clear ht) | (refine ht.1 ?_ ?_ <;> clear ht) | (refine ht ?_; clear ht))
    all_goals first
      | ((try simp only [nd_s, bn_s, mm_s] at *); omega)
      | (have hge : w.length ≤ i := by omega
         rw [List.drop_of_length_le hge] at he
         have hf : getF w b = (o, 0) := by unfold getF; rw [if_pos hr, he]; rfl
         refine ⟨?_, rfl⟩; unfold getL getK; rw [hf]; done)
      | skip
    all_goals have hlt : i < w.length := by omega
    all_goals have hkk := (rightF_t.1 hr).2 _ (getD_mem' (α := Int) hlt 0)
    all_goals have ha := absI_le (n := w.getD i 0)
    all_goals dsimp only
    all_goals first
      | exact True.intro
      | ((try simp only [nd_s, bn_s, mm_s] at *); omega)
      | (simp only [List.length_drop, List.length_take]; (try simp only [nd_s, bn_s, mm_s] at *); omega)
      | (simp only [cast_rfl, List.length_append, List.length_cons, List.length_nil]; omega)
      | (have h1 : ((b.drop p).length : Int) < absI (w.getD i 0) := by rw [hdl]; omega
         have hf : getF w b = ([], 1) := by unfold getF; rw [if_pos hr, he]; exact getA_short hlt h1
         refine ⟨?_, rfl⟩; unfold getL getK; rw [hf]; done)
      | (have h2 : 0 < w.getD i 0 := by assumption
         (intro r h1 h2; refine h1 ⟨1, ?_⟩; clear h1 h2))
      | (have h2 : w.getD i 0 < 0 := by assumption
         (intro r h1 h2; clear h1; refine h2 ⟨[0, 1, 6, 7, 8, 9, 10], Nat, (fun k => p ≤ k ∧ (k : Int) ≤ p - w.getD i 0 ∧ zeroL ((b.drop p).take (k - p)) = true), fun k => [.imm (.int .i64) w, .imm (.int .u8) b, .own 0, .int .i64 p, .int .i64 i, .int .i64 (0 - w.getD i 0), .int .i64 k], fun _ => [.row false (.int .u64) o], fun k => b.length - k, ⟨p, ⟨Nat.le_refl _, by omega, by rw [Nat.sub_self]; rfl⟩, rfl, rfl⟩, ?_⟩; clear h2); rintro k ⟨hk1, hk2, hk3⟩)
      | trace_state
    all_goals repeat' (intro t ht; first | (cases t <;> first | (cases ht; done) | ((try simp only [bn_s] at ht); (try simp only [nd_s] at ht); (try (exfalso; first | contradiction | omega)))) | (refine ht ?_ ?_ <;> clear ht) | (refine ht.1 ?_ ?_ <;> clear ht) | (refine ht ?_; clear ht))
    all_goals (try dsimp only)
    all_goals first
      | exact True.intro
      | ((try simp only [nd_s, bn_s, mm_s] at *); omega)
      | (have h2 : 0 < w.getD i 0 := by assumption
         have h1 : ¬ ((b.drop p).length : Int) < absI (w.getD i 0) := by rw [hdl]; omega
         have hab : absI (w.getD i 0) = w.getD i 0 := absI_nn (by omega)
         have hsl := slice_eq b p (n := w.getD i 0) (by omega)
         refine ⟨(i + 1, p + (absI (w.getD i 0)).toNat, o ++ [numL ((b.drop p).take (absI (w.getD i 0)).toNat)]), ⟨hlt, ?_, ?_, ?_⟩, ?_, ?_, ?_⟩
         · dsimp only; omega
         · simp only [List.length_append, List.length_cons, List.length_nil]; omega
         · dsimp only; rw [he, getA_num hlt h1 h2, List.drop_drop]
         · dsimp only; omega
         · have : ((p + (absI (w.getD i 0)).toNat : Nat) : Int) = p + w.getD i 0 := by rw [hab]; omega
           simp only [this]; rfl
         · simp only [hab, ← hsl]; rfl)
      | (have hz : b.getD k 0 = 0 := by assumption
         exact ⟨k + 1, ⟨by omega, by omega, zeroT_step (by omega) hk3 hk1 hz⟩, by omega, rfl, rfl⟩)
      | (have hz : ¬ b.getD k 0 = 0 := by assumption
         have h2 : ¬ 0 < w.getD i 0 := by assumption
         have hab : absI (w.getD i 0) = -w.getD i 0 := absI_neg (by omega)
         have h1 : ¬ ((b.drop p).length : Int) < absI (w.getD i 0) := by rw [hdl]; omega
         have h3 : zeroL ((b.drop p).take (absI (w.getD i 0)).toNat) = false := zeroT_odd (by omega) hk1 (by omega) hz
         have hf : getF w b = ([], 2) := by unfold getF; rw [if_pos hr, he]; exact getA_odd hlt h1 h2 h3
         refine ⟨?_, rfl⟩; unfold getL getK; rw [hf]; done)
      | (have h2 : ¬ 0 < w.getD i 0 := by assumption
         have hab : absI (w.getD i 0) = -w.getD i 0 := absI_neg (by omega)
         have h1 : ¬ ((b.drop p).length : Int) < absI (w.getD i 0) := by rw [hdl]; omega
         have hke : k - p = (absI (w.getD i 0)).toNat := by omega
         rw [hke] at hk3
         refine ⟨(i + 1, p + (absI (w.getD i 0)).toNat, o), ⟨hlt, ?_, ?_, ?_⟩, ?_, ?_, rfl⟩
         · dsimp only; omega
         · dsimp only; omega
         · dsimp only; rw [he, getA_zero hlt h1 h2 hk3, List.drop_drop]
         · dsimp only; omega
         · have : ((p + (absI (w.getD i 0)).toNat : Nat) : Int) = p + (0 - w.getD i 0) := by rw [hab]; omega
           simp only [this]; rfl)
  · cases e
end Go.Eng
