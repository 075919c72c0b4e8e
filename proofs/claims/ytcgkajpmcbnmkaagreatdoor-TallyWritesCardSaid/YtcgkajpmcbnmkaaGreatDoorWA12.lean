/- Parts of the proof: R7, P1, T1. No condition. -/
import Derived.Test.YtcgkajpmcbnmkaaGreatDoorProg
import Derived.Test.YtcgkajpmcbnmkaaGreatDoorWA10
import Derived.KernelRfl
import Derived.Test.YtcgkajpmcbnmkaaGreatDoorWA11
namespace Go.Eng
open Go.Proofs
set_option linter.unusedVariables false
set_option linter.unusedSimpArgs false
set_option maxRecDepth 100000
set_option maxHeartbeats 1000000
def ir_r01_Right : IR :=
(.seq
(.keep [0]
(.reg [oD 2 (.mov cF)]))
(.seq
(.seq
(.reg [oD 3 (.mov (cI 0))])
(.block 0
(.loop
(.seq
(.seq
(.keep [0, 3]
(.reg [oM 4 3,
oM 5 0,
oE 6 5,
oB 7 .lss (.t 4) (.t 6)]))
(.cond (.t 7)
.skip
(.exit 0)))
(.seq
(.block 1
(.seq
(.keep [0, 3]
(.reg [oM 10 0,
oM 11 3,
oI 12 1 10 11,
oL 13 12,
oB 14 .eql (.t 13) (cI 0),
oM 15 14,
oF 15 16 (.mov (.t 0)),
oF 15 17 (.mov (.t 3)),
oF 15 18 (.indexSl 1 (.t 16) (.t 17)),
oF 15 19 (.load none (.t 18)),
oF 15 20 (.bin .gtr (.t 19) (cI 8)),
oP 21 15 cT (.t 20),
oM 22 21,
oF 22 23 (.mov (.t 0)),
oF 22 24 (.mov (.t 3)),
oF 22 25 (.indexSl 1 (.t 23) (.t 24)),
oF 22 26 (.load none (.t 25)),
oF 22 27 (.bin .lss (.t 26) (cI (-64))),
oP 28 22 cT (.t 27)]))
(.cond (.t 28)
(.seq
(.keep []
(.reg [oD 2 (.mov cF)]))
.ret)
.skip)))
(.keep [0, 3]
(.reg [oM 8 3,
oB 9 .add (.t 8) (cI 1),
oM 3 9])))))))
(.seq
(.keep [0]
(.reg [oM 29 0,
oE 30 29,
oB 31 .leq (.t 30) (cI 64),
oM 2 31]))
.ret)))
def rd_r01_Right : List RD := [.tmp 2 true none]
theorem ok_r01_Right : fnOk Tryz.prog Tryz.f67 ir_r01_Right rd_r01_Right = true := by kernel_rfl
def S_r01_Right : List AV → List Obj → Option (Prop × AV)
  | [.imm (.int .i64) w], [] => some ((True, .bool (rightF w)))
  | _, _ => none
theorem snd_r01_Right : SoundS Tryz.prog 67 (RoF S_r01_Right).sum := by
  refine ro_fn Tryz.func67 ok_r01_Right (env_nil _) fun args objs p v e => ?_
  unfold S_r01_Right at e
  split at e
  · rename_i w
    cases e
    refine ⟨rfl, fun hw ho hp => ?_⟩
    change List Int at w
    have hl : w.length ≤ maxLen := (hw (.imm (.int .i64) w) (by simp)).2
    unfold maxLen at hl
    repeat' (intro t ht; first | (cases t <;> first | (cases ht; done) | ((try simp only [bn_s] at ht); (try simp only [nd_s] at ht))) | (refine castG_go ht ?_; clear ht) | (refine ht ?_ ?_ <;> clear ht) | (refine ht.1 ?_ ?_ <;> clear ht) | (refine ht ?_; clear ht))
    all_goals (intro r h1 h2; clear h1; refine h2 ⟨[0, 3], Nat, (fun i => i ≤ w.length ∧ w.all okW = (w.drop i).all okW), fun i => [.imm (.int .i64) w, .int .i64 i], fun _ => [], fun i => w.length - i, ⟨0, ⟨Nat.zero_le _, rfl⟩, rfl, rfl⟩, ?_⟩; clear h2)
    rintro i ⟨hi, he⟩
    repeat' (intro t ht; first | (cases t <;> first | (cases ht; done) | ((try simp only [bn_s] at ht); (try simp only [nd_s] at ht))) | (refine castG_go ht ?_; clear ht) | (refine ht ?_ ?_ <;> clear ht) | (refine ht.1 ?_ ?_ <;> clear ht) | (refine ht ?_; clear ht))
    all_goals first
      | ((try simp only [nd_s, bn_s, mm_s] at *); omega)
      | (have hge : w.length ≤ i := by omega
         rw [List.drop_of_length_le hge] at he
         refine ⟨?_, rfl⟩; unfold rightF; rw [he, List.all_nil, Bool.and_true]
         congr 2; exact propext (by omega))
      | (have hlt : i < w.length := by omega
         rw [drop_step hlt 0, List.all_cons] at he
         first
           | (have hk : okW (w.getD i 0) = false := okW_f.2 (by omega)
              refine ⟨?_, rfl⟩; unfold rightF; rw [he, hk]; simp; done)
           | (have hk : okW (w.getD i 0) = true := okW_t.2 (by omega)
              rw [hk, Bool.true_and] at he
              exact ⟨i + 1, ⟨hlt, he⟩, by (try simp only [nd_s, bn_s, mm_s] at *); omega, rfl, rfl⟩))
      | trace_state
  · cases e
def ir_r01_Size : IR :=
(.seq
(.keep [0]
(.reg [oD 2 (.mov (cI 0))]))
(.seq
(.reg [oD 3 (.mov (cI 0))])
(.seq
(.seq
(.reg [oD 4 (.mov (cI 0))])
(.block 0
(.loop
(.seq
(.seq
(.keep [0, 3, 4]
(.reg [oM 5 4,
oM 6 0,
oE 7 6,
oB 8 .lss (.t 5) (.t 7),
oM 9 8,
oT 9 10 (.mov (.t 0)),
oT 9 11 (.call false (.f 67) [(.t 10)]),
oP 12 9 (.t 11) cF]))
(.cond (.t 12)
.skip
(.exit 0)))
(.seq
(.block 1
(.seq
(.keep [0, 3, 4]
(.reg [oM 15 0,
oM 16 4,
oI 17 1 15 16,
oL 18 17,
oB 19 .gtr (.t 18) (cI 0)]))
(.cond (.t 19)
(.keep [0, 3, 4]
(.reg [oM 20 3,
oM 21 0,
oM 22 4,
oI 23 1 21 22,
oL 24 23,
oB 25 .add (.t 20) (.t 24),
oM 3 25]))
(.keep [0, 3, 4]
(.reg [oM 26 3,
oM 27 0,
oM 28 4,
oI 29 1 27 28,
oL 30 29,
oB 31 .sub (.t 26) (.t 30),
oM 3 31])))))
(.keep [0, 3, 4]
(.reg [oM 13 4,
oB 14 .add (.t 13) (cI 1),
oM 4 14])))))))
(.seq
(.keep [3]
(.reg [oM 32 3,
oM 2 32]))
.ret))))
def rd_r01_Size : List RD := [.tmp 2 true none]
theorem ok_r01_Size : fnOk Tryz.prog Tryz.f33 ir_r01_Size rd_r01_Size = true := by kernel_rfl
def S_r01_Size : List AV → List Obj → Option (Prop × AV)
  | [.imm (.int .i64) w], [] => some ((True, .int .i64 (sizeW w)))
  | _, _ => none
theorem snd_r01_Size : SoundS Tryz.prog 33 (RoF S_r01_Size).sum := by
  refine ro_fn Tryz.func33 ok_r01_Size (env_cons (s := RoF S_r01_Right) snd_r01_Right (env_nil _)) fun args objs p v e => ?_
  unfold S_r01_Size at e
  split at e
  · rename_i w
    cases e
    refine ⟨rfl, fun hw ho hp => ?_⟩
    change List Int at w
    repeat' (intro t ht; first | (cases t <;> first | (cases ht; done) | ((try simp only [bn_s] at ht); (try simp only [nd_s] at ht))) | (refine castG_go ht ?_; clear ht) | (refine ht ?_ ?_ <;> clear ht) | (refine ht.1 ?_ ?_ <;> clear ht) | (refine ht ?_; clear ht))
    all_goals first
      | (intro r h1 h2; clear h1; refine h2 ⟨[0, 3, 4], Nat, (fun i => i ≤ w.length ∧ (rightF w = false → i = 0)), fun i => [.imm (.int .i64) w, .int .i64 (sumT absI w i), .int .i64 i], fun _ => [], fun i => w.length - i, ⟨0, ⟨Nat.zero_le _, fun _ => rfl⟩, rfl, rfl⟩, ?_⟩; clear h2)
    rintro i ⟨hi, hz⟩
    repeat' (intro t ht; first | (cases t <;> first | (cases ht; done) | ((try simp only [bn_s] at ht); (try simp only [nd_s] at ht))) | (refine castG_go ht ?_; clear ht) | (refine ht ?_ ?_ <;> clear ht) | (refine ht.1 ?_ ?_ <;> clear ht) | (refine ht ?_; clear ht))
    all_goals first
      | exact True.intro
      | ((try simp only [nd_s, bn_s, mm_s] at *); omega)
      | (have hge : w.length ≤ i := by omega
         refine ⟨?_, rfl⟩; unfold sizeW; rw [sumT_end absI hge]
         cases hr : rightF w with
         | true => rfl
         | false => have h0 := hz hr; have : w = [] := List.length_eq_zero_iff.1 (by omega); subst this; rfl)
      | (have hr : rightF w = false := by assumption
         have h0 := hz hr; subst h0
         refine ⟨?_, rfl⟩; unfold sizeW; rw [hr]; rfl)
      | (have hr : rightF w = true := by assumption
         have hl := (rightF_t.1 hr).1
         have hlt : i < w.length := by omega
         have hs := sumT_abs hr i
         have hk := (rightF_t.1 hr).2 _ (getD_mem' hlt 0)
         have ha := absI_le (n := w.getD i 0)
         first
           | ((try simp only [nd_s, bn_s, mm_s] at *); omega)
           | (refine ⟨i + 1, ⟨hlt, fun h => by rw [hr] at h; cases h⟩, by (try simp only [nd_s, bn_s, mm_s] at *); omega, ?_, rfl⟩
              dsimp only
              rw [sumT_step absI hlt]
              first
                | (rw [absI_nn (by omega)]; done)
                | (rw [absI_nn (by omega)]; rfl)
                | (rw [absI_neg (by omega)]; rfl)
                | (rw [absI_neg (by omega), ← Int.sub_eq_add_neg])))
      | trace_state
  · cases e
def ir_r01_Count : IR :=
(.seq
(.keep [0]
(.reg [oD 2 (.mov (cI 0))]))
(.seq
(.reg [oD 3 (.mov (cI 0))])
(.seq
(.seq
(.reg [oD 4 (.mov (cI 0))])
(.block 0
(.loop
(.seq
(.seq
(.keep [0, 3, 4]
(.reg [oM 5 4,
oM 6 0,
oE 7 6,
oB 8 .lss (.t 5) (.t 7),
oM 9 8,
oT 9 10 (.mov (.t 0)),
oT 9 11 (.call false (.f 67) [(.t 10)]),
oP 12 9 (.t 11) cF]))
(.cond (.t 12)
.skip
(.exit 0)))
(.seq
(.block 1
(.seq
(.keep [0, 3, 4]
(.reg [oM 15 0,
oM 16 4,
oI 17 1 15 16,
oL 18 17,
oB 19 .gtr (.t 18) (cI 0)]))
(.cond (.t 19)
(.reg [oM 20 3,
oB 21 .add (.t 20) (cI 1),
oM 3 21])
.skip)))
(.keep [0, 3, 4]
(.reg [oM 13 4,
oB 14 .add (.t 13) (cI 1),
oM 4 14])))))))
(.seq
(.keep [3]
(.reg [oM 22 3,
oM 2 22]))
.ret))))
def rd_r01_Count : List RD := [.tmp 2 true none]
theorem ok_r01_Count : fnOk Tryz.prog Tryz.f68 ir_r01_Count rd_r01_Count = true := by kernel_rfl
def S_r01_Count : List AV → List Obj → Option (Prop × AV)
  | [.imm (.int .i64) w], [] => some ((True, .int .i64 (countW w)))
  | _, _ => none
theorem snd_r01_Count : SoundS Tryz.prog 68 (RoF S_r01_Count).sum := by
  refine ro_fn Tryz.func68 ok_r01_Count (env_cons (s := RoF S_r01_Right) snd_r01_Right (env_nil _)) fun args objs p v e => ?_
  unfold S_r01_Count at e
  split at e
  · rename_i w
    cases e
    refine ⟨rfl, fun hw ho hp => ?_⟩
    change List Int at w
    repeat' (intro t ht; first | (cases t <;> first | (cases ht; done) | ((try simp only [bn_s] at ht); (try simp only [nd_s] at ht))) | (refine castG_go ht ?_; clear ht) | (refine ht ?_ ?_ <;> clear ht) | (refine ht.1 ?_ ?_ <;> clear ht) | (refine ht ?_; clear ht))
    all_goals first
      | (intro r h1 h2; clear h1; refine h2 ⟨[0, 3, 4], Nat, (fun i => i ≤ w.length ∧ (rightF w = false → i = 0)), fun i => [.imm (.int .i64) w, .int .i64 (sumT oneI w i), .int .i64 i], fun _ => [], fun i => w.length - i, ⟨0, ⟨Nat.zero_le _, fun _ => rfl⟩, rfl, rfl⟩, ?_⟩; clear h2)
    rintro i ⟨hi, hz⟩
    repeat' (intro t ht; first | (cases t <;> first | (cases ht; done) | ((try simp only [bn_s] at ht); (try simp only [nd_s] at ht))) | (refine castG_go ht ?_; clear ht) | (refine ht ?_ ?_ <;> clear ht) | (refine ht.1 ?_ ?_ <;> clear ht) | (refine ht ?_; clear ht))
    all_goals first
      | exact True.intro
      | ((try simp only [nd_s, bn_s, mm_s] at *); omega)
      | (have hge : w.length ≤ i := by omega
         refine ⟨?_, rfl⟩; unfold countW; rw [sumT_end oneI hge]
         cases hr : rightF w with
         | true => rfl
         | false => have h0 := hz hr; have : w = [] := List.length_eq_zero_iff.1 (by omega); subst this; rfl)
      | (have hr : rightF w = false := by assumption
         have h0 := hz hr; subst h0
         refine ⟨?_, rfl⟩; unfold countW; rw [hr]; rfl)
      | (have hr : rightF w = true := by assumption
         have hl := (rightF_t.1 hr).1
         have hlt : i < w.length := by omega
         have hs := sumT_one hr i
         first
           | ((try simp only [nd_s, bn_s, mm_s] at *); omega)
           | (refine ⟨i + 1, ⟨hlt, fun h => by rw [hr] at h; cases h⟩, by (try simp only [nd_s, bn_s, mm_s] at *); omega, ?_, rfl⟩
              dsimp only
              rw [sumT_step oneI hlt]
              first
                | (have e : oneI (w.getD i 0) = 1 := if_pos (by assumption)
                   rw [e]; rfl)
                | (have e : oneI (w.getD i 0) = 0 := if_neg (by assumption)
                   rw [e, Int.add_zero]; rfl)))
      | trace_state
  · cases e
theorem shl_div : ∀ k : Nat, k ≤ 7 → ∀ x : Int, 0 ≤ x → (x < (2 ^ (8 * k) : Nat) ↔ x.fdiv (2 ^ (8 * k)) = 0)
  | k, _, x, hx => by
    have hp : (0 : Int) < 2 ^ (8 * k) := Int.pow_pos (by decide)
    have e : ((2 ^ (8 * k) : Nat) : Int) = 2 ^ (8 * k) := by push_cast; rfl
    rw [e, Int.fdiv_eq_ediv_of_nonneg _ (Int.le_of_lt hp)]
    constructor
    · intro h; exact Int.ediv_eq_zero_of_lt hx h
    · intro h
      have := Int.lt_ediv_add_one_mul_self x hp
      rw [h] at this; omega
def fitsN (x n : Int) : Bool := decide (n = 8) || decide (x.fdiv (2 ^ (min (8 * n).toNat 64)) = 0)
theorem fits_eq {x : Int} (hx : 0 ≤ x) : ∀ k : Nat, 1 ≤ k → k ≤ 7 → decide (x < 1 * 2 ^ min (8 * (k : Int)).toNat IntKind.u64.bits) = fitsN x k
  | k, h1, h7 => by
    have e : min (8 * (k : Int)).toNat IntKind.u64.bits = 8 * k := by
      have : IntKind.u64.bits = 64 := rfl
      rw [this]; omega
    have e' : min (8 * (k : Int)).toNat 64 = 8 * k := by omega
    unfold fitsN
    rw [e, e', decide_eq_false (show ¬ (k : Int) = 8 by omega), Bool.false_or, Int.one_mul]
    rw [decide_eq_decide]
    have := shl_div k h7 x hx
    push_cast at this
    exact this
def ir_r01_Fits : IR :=
(.seq
(.keep [0, 1]
(.reg [oD 4 (.mov cF)]))
(.seq
(.keep [0, 1]
(.reg [oM 5 1,
oB 6 .eql (.t 5) (cI 8),
oM 7 6,
oF 7 8 (.mov (.t 0)),
oF 7 9 (.mov (.t 1)),
oF 7 10 (.bin .mul (cI 8) (.t 9)),
oF 7 11 (.bin .shl (.c (.int .u64 1)) (.t 10)),
oF 7 12 (.bin .lss (.t 8) (.t 11)),
oP 13 7 cT (.t 12),
oM 4 13]))
.ret))
def rd_r01_Fits : List RD := [.tmp 4 true none]
theorem ok_r01_Fits : fnOk Tryz.prog Tryz.f69 ir_r01_Fits rd_r01_Fits = true := by kernel_rfl
def S_r01_Fits : List AV → List Obj → Option (Prop × AV)
  | [.int .u64 x, .int .i64 n], [] => some ((1 ≤ n ∧ n ≤ 8, .bool (fitsN x n)))
  | _, _ => none
theorem snd_r01_Fits : SoundS Tryz.prog 69 (RoF S_r01_Fits).sum := by
  refine ro_fn Tryz.func69 ok_r01_Fits (env_nil _) fun args objs p v e => ?_
  unfold S_r01_Fits at e
  split at e
  · rename_i x n
    cases e
    refine ⟨rfl, fun hw ho hp => ?_⟩
    have hx : IntKind.u64.min ≤ x ∧ x ≤ IntKind.u64.max := hw (.int .u64 x) (by simp)
    have hx0 : 0 ≤ x := hx.1
    obtain ⟨h1, h8⟩ := hp
    obtain ⟨k, rfl⟩ := Int.eq_ofNat_of_zero_le (show 0 ≤ n by omega)
    repeat' (intro t ht; first | (cases t <;> first | (cases ht; done) | ((try simp only [bn_s] at ht); (try simp only [nd_s] at ht))) | (refine castG_go ht ?_; clear ht) | (refine ht ?_ ?_ <;> clear ht) | (refine ht.1 ?_ ?_ <;> clear ht) | (refine ht ?_; clear ht))
    all_goals first
      | exact True.intro
      | ((try simp only [nd_s, bn_s, mm_s] at *); omega)
      | (refine ⟨?_, rfl⟩; unfold fitsN; rw [decide_eq_true (by assumption)]; rfl)
      | (have hk : k = 1 ∨ k = 2 ∨ k = 3 ∨ k = 4 ∨ k = 5 ∨ k = 6 ∨ k = 7 := by omega
         rcases hk with rfl | rfl | rfl | rfl | rfl | rfl | rfl <;> decide)
      | (refine ⟨?_, rfl⟩; rw [← fits_eq hx0 k (by omega) (by omega)])
      | trace_state
  · cases e
theorem fitsN_put {x n : Int} : fitsN x n = false → n ≤ 8 → (n < 8 ∧ x.fdiv (2 ^ (min (8 * n).toNat 64)) ≠ 0) := fun h h8 => by
  unfold fitsN at h
  simp only [Bool.or_eq_false_iff, decide_eq_false_iff_not] at h
  exact ⟨by omega, h.2⟩
theorem fitsN_ok {x n : Int} : fitsN x n = true → ¬ (n < 8 ∧ x.fdiv (2 ^ (min (8 * n).toNat 64)) ≠ 0) := fun h k => by
  unfold fitsN at h
  simp only [Bool.or_eq_true, decide_eq_true_eq] at h
  rcases h with h | h
  · omega
  · exact k.2 h
theorem bytesN_zero (w : Int) : List.replicate w.toNat 0 = bytesN 0 w := by
  have : ∀ j : Nat, byteAt 0 w j = 0 := fun j => by unfold byteAt; rw [Int.zero_fdiv]; rfl
  unfold bytesN bytesT
  simp only [this, List.map_const', List.length_range]
theorem slice_eq {α : Type} (b : List α) (p : Nat) {n : Int} (h : 0 ≤ n) : (b.take ((p : Int) + n).toNat).drop p = (b.drop p).take n.toNat := by
  have e : ((p : Int) + n).toNat = p + n.toNat := by omega
  rw [e, List.drop_take]; congr 1; omega
theorem zeroT_step {b : List Int} {p k : Nat} (h : k < b.length) (hz : zeroL ((b.drop p).take (k - p)) = true) (hp : p ≤ k) (e : b.getD k 0 = 0) : zeroL ((b.drop p).take (k + 1 - p)) = true := by
  have hk : k - p < (b.drop p).length := by rw [List.length_drop]; omega
  rw [show k + 1 - p = (k - p) + 1 by omega, List.take_succ_eq_append_getElem hk]
  unfold zeroL at hz ⊢
  rw [List.all_append, hz, Bool.true_and, List.getElem_drop]
  have : b[p + (k - p)]'(by omega) = b.getD k 0 := by
    rw [List.getD_eq_getElem?_getD, List.getElem?_eq_getElem h, Option.getD_some]; congr 1; omega
  rw [List.all_cons, List.all_nil, this, e]; rfl
theorem zeroT_odd {b : List Int} {p k n : Nat} (h : k < b.length) (hp : p ≤ k) (hk : k < p + n) (e : ¬ b.getD k 0 = 0) : zeroL ((b.drop p).take n) = false := by
  unfold zeroL
  rw [List.all_eq_false]
  refine ⟨b.getD k 0, ?_, by simpa using e⟩
  rw [List.mem_take_iff_getElem]
  refine ⟨k - p, by rw [List.length_drop]; omega, ?_⟩
  rw [List.getElem_drop, List.getD_eq_getElem?_getD, List.getElem?_eq_getElem h, Option.getD_some]
  congr 1; omega
def ir_r01_Get : IR :=
(.seq
(.keep [0, 1]
(.reg [oD 4 (.nilrow (.int .u64)),
oD 5 (.mov (cI 0))]))
(.seq
(.seq
(.reg [oM 11 0,
oC 12 67 [.t 11],
oD 13 (.un .not (.t 12))])
(.cond (.t 13)
(.seq
(.reg [oD 4 (.nilrow (.int .u64)),
oD 5 (.mov (cI 2))])
.ret)
.skip))
(.seq
(.keep [0, 1]
(.reg [oD 6 (.nilrow (.int .u64))]))
(.seq
(.reg [oD 7 (.mov (cI 0))])
(.seq
(.seq
(.reg [oD 8 (.mov (cI 0))])
(.block 0
(.loop
(.seq
(.seq
(.keep [0, 1, 6, 7, 8]
(.reg [oM 14 8,
oM 15 0,
oE 16 15,
oB 17 .lss (.t 14) (.t 16)]))
(.cond (.t 17)
.skip
(.exit 0)))
(.seq
(.block 1
(.seq
(.keep [0, 1, 6, 7, 8]
(.reg [oM 20 0,
oM 21 8,
oI 22 1 20 21,
oL 23 22,
oM 9 23]))
(.seq
(.seq
(.reg [oM 24 9,
oB 25 .lss (.t 24) (cI 0)])
(.cond (.t 25)
(.keep [0, 1, 6, 7, 8, 9]
(.reg [oM 26 9,
oD 27 (.un .neg (.t 26)),
oM 9 27]))
.skip))
(.seq
(.seq
(.keep [0, 1, 6, 7, 8, 9]
(.reg [oM 28 1,
oE 29 28,
oM 30 7,
oB 31 .sub (.t 29) (.t 30),
oM 32 9,
oB 33 .lss (.t 31) (.t 32)]))
(.cond (.t 33)
(.seq
(.keep []
(.reg [oD 4 (.nilrow (.int .u64)),
oD 5 (.mov (cI 1))]))
.ret)
.skip))
(.seq
(.seq
(.keep [0, 1, 6, 7, 8, 9]
(.reg [oM 34 0,
oM 35 8,
oI 36 1 34 35,
oL 37 36,
oB 38 .gtr (.t 37) (cI 0)]))
(.cond (.t 38)
(.keep [0, 1, 6, 7, 8, 9]
(.reg [oM 39 6,
oM 40 1,
oM 41 7,
oM 42 7,
oM 43 9,
oB 44 .add (.t 42) (.t 43),
oD 45 (.slice 1 (.t 40) (some (.t 41)) (some (.t 44)) none),
oC 46 84 [.t 45],
oD 47 (.sliceAll (.int .u64) 1 [(0, 1, (.t 46))]),
oD 48 (.append (.int .u64) 8 (.t 39) (.t 47)),
oM 6 48]))
.skip))
(.seq
(.seq
(.keep [0, 1, 6, 7, 8, 9]
(.reg [oM 49 7,
oM 10 49]))
(.block 2
(.loop
(.seq
(.seq
(.keep [0, 1, 6, 7, 8, 9, 10]
(.reg [oM 50 10,
oM 51 7,
oM 52 9,
oB 53 .add (.t 51) (.t 52),
oB 54 .lss (.t 50) (.t 53),
oM 55 54,
oT 55 56 (.mov (.t 0)),
oT 55 57 (.mov (.t 8)),
oT 55 58 (.indexSl 1 (.t 56) (.t 57)),
oT 55 59 (.load none (.t 58)),
oT 55 60 (.bin .lss (.t 59) (cI 0)),
oP 61 55 (.t 60) cF]))
(.cond (.t 61)
.skip
(.exit 2)))
(.seq
(.block 3
(.seq
(.keep [0, 1, 6, 7, 8, 9, 10]
(.reg [oM 64 1,
oM 65 10,
oI 66 1 64 65,
oL 67 66,
oB 68 .neq (.t 67) (.c (.int .u8 0))]))
(.cond (.t 68)
(.seq
(.reg [oD 4 (.nilrow (.int .u64)),
oD 5 (.mov (cI 2))])
.ret)
.skip)))
(.keep [0, 1, 6, 7, 8, 9, 10]
(.reg [oM 62 10,
oB 63 .add (.t 62) (cI 1),
oM 10 63])))))))
(.keep [0, 1, 6, 7, 8, 9]
(.reg [oM 69 7,
oM 70 9,
oB 71 .add (.t 69) (.t 70),
oM 7 71]))))))))
(.keep [0, 1, 6, 7, 8]
(.reg [oM 18 8,
oB 19 .add (.t 18) (cI 1),
oM 8 19])))))))
(.seq
(.keep [6]
(.reg [oM 72 6,
oM 4 72,
oD 5 (.mov (cI 0))]))
.ret))))))
def rd_r01_Get : List RD := [.tmp 4 true (some (.int .u64)), .tmp 5 true none]
theorem ok_r01_Get : fnOk Tryz.prog Tryz.f35 ir_r01_Get rd_r01_Get = true := by kernel_rfl
def S_r01_Get : List AV → List Obj → Option (Prop × AV)
  | [.imm (.int .i64) w, .imm (.int .u8) b], [] => some ((True, .tup [.imm (.int .u64) (getL w b), .int .i64 (getK w b)]))
  | _, _ => none
theorem snd_r01_Get : SoundS Tryz.prog 35 (RoF S_r01_Get).sum := by
  refine ro_fn Tryz.func35 ok_r01_Get (env_cons (s := RoF S_r01_Right) snd_r01_Right (env_cons (s := RoF S_r01_Value) snd_r01_Value (env_nil _))) fun args objs p v e => ?_
  unfold S_r01_Get at e
  split at e
  · rename_i w b
    cases e
    refine ⟨rfl, fun hw ho hp => ?_⟩
    change List Int at w
    change List Int at b
    have hb : b.length ≤ maxLen := (hw (.imm (.int .u8) b) (by simp)).2
    unfold maxLen at hb
    repeat' (intro t ht; first | (cases t <;> first | (cases ht; done) | ((try simp only [bn_s] at ht); (try simp only [nd_s] at ht))) | (refine castG_go ht ?_; clear ht) | (refine ht ?_ ?_ <;> clear ht) | (refine ht.1 ?_ ?_ <;> clear ht) | (refine ht ?_; clear ht))
    all_goals first
      | exact True.intro
      | (intro r h1 h2; clear h1; refine h2 ⟨[0, 1, 6, 7, 8], Nat × Nat × List Int, (fun a => a.1 ≤ w.length ∧ a.2.1 ≤ b.length ∧ a.2.2.length ≤ a.1 ∧ getA w b [] = getA (w.drop a.1) (b.drop a.2.1) a.2.2), fun a => [.imm (.int .i64) w, .imm (.int .u8) b, .own 0, .int .i64 a.2.1, .int .i64 a.1], fun a => [.row false (.int .u64) a.2.2], fun a => w.length - a.1, ⟨(0, 0, []), ⟨Nat.zero_le _, Nat.zero_le _, Nat.zero_le _, rfl⟩, rfl, rfl⟩, ?_⟩; clear h2)
      | (have hr : rightF w = false := by assumption
         have hf : getF w b = ([], 2) := by unfold getF; rw [hr]; rfl
         refine ⟨?_, rfl⟩; unfold getL getK; rw [hf])
    rintro ⟨i, p, o⟩ ⟨hi, hp, ho, he⟩
    dsimp only at hi hp ho he
    have hr : rightF w = true := by assumption
    have hl := (rightF_t.1 hr).1
    have hdl : (b.drop p).length = b.length - p := List.length_drop
    repeat' (intro t ht; first | (cases t <;> first | (cases ht; done) | ((try simp only [bn_s] at ht); (try simp only [nd_s] at ht); (try (exfalso; first | contradiction | omega)))) | (refine castG_go ht ?_; clear ht) | (refine ht ?_ ?_ <;> clear ht) | (refine ht.1 ?_ ?_ <;> clear ht) | (refine ht ?_; clear ht))
    all_goals first
      | ((try simp only [nd_s, bn_s, mm_s] at *); omega)
      | (have hge : w.length ≤ i := by omega
         rw [List.drop_of_length_le hge] at he
         have hf : getF w b = (o, 0) := by unfold getF; rw [if_pos hr, he]; rfl
         refine ⟨?_, rfl⟩; unfold getL getK; rw [hf]; done)
      | skip
    all_goals have hlt : i < w.length := by omega
    all_goals have hkk := (rightF_t.1 hr).2 _ (getD_mem' (α := Int) hlt 0)
    all_goals have ha := absI_le (n := w.getD i 0)
    all_goals dsimp only
    all_goals first
      | exact True.intro
      | ((try simp only [nd_s, bn_s, mm_s] at *); omega)
      | (simp only [List.length_drop, List.length_take]; (try simp only [nd_s, bn_s, mm_s] at *); omega)
      | (simp only [cast_rfl, List.length_append, List.length_cons, List.length_nil]; omega)
      | (have h1 : ((b.drop p).length : Int) < absI (w.getD i 0) := by rw [hdl]; omega
         have hf : getF w b = ([], 1) := by unfold getF; rw [if_pos hr, he]; exact getA_short hlt h1
         refine ⟨?_, rfl⟩; unfold getL getK; rw [hf]; done)
      | (have h2 : 0 < w.getD i 0 := by assumption
         (intro r h1 h2; refine h1 ⟨1, ?_⟩; clear h1 h2))
      | (have h2 : w.getD i 0 < 0 := by assumption
         (intro r h1 h2; clear h1; refine h2 ⟨[0, 1, 6, 7, 8, 9, 10], Nat, (fun k => p ≤ k ∧ (k : Int) ≤ p - w.getD i 0 ∧ zeroL ((b.drop p).take (k - p)) = true), fun k => [.imm (.int .i64) w, .imm (.int .u8) b, .own 0, .int .i64 p, .int .i64 i, .int .i64 (0 - w.getD i 0), .int .i64 k], fun _ => [.row false (.int .u64) o], fun k => b.length - k, ⟨p, ⟨Nat.le_refl _, by omega, by rw [Nat.sub_self]; rfl⟩, rfl, rfl⟩, ?_⟩; clear h2); rintro k ⟨hk1, hk2, hk3⟩)
      | trace_state
    all_goals repeat' (intro t ht; first | (cases t <;> first | (cases ht; done) | ((try simp only [bn_s] at ht); (try simp only [nd_s] at ht); (try (exfalso; first | contradiction | omega)))) | (refine castG_go ht ?_; clear ht) | (refine ht ?_ ?_ <;> clear ht) | (refine ht.1 ?_ ?_ <;> clear ht) | (refine ht ?_; clear ht))
    all_goals (try dsimp only)
    all_goals first
      | exact True.intro
      | ((try simp only [nd_s, bn_s, mm_s] at *); omega)
      | (have h2 : 0 < w.getD i 0 := by assumption
         have h1 : ¬ ((b.drop p).length : Int) < absI (w.getD i 0) := by rw [hdl]; omega
         have hab : absI (w.getD i 0) = w.getD i 0 := absI_nn (by omega)
         have hsl := slice_eq b p (n := w.getD i 0) (by omega)
         refine ⟨(i + 1, p + (absI (w.getD i 0)).toNat, o ++ [numL ((b.drop p).take (absI (w.getD i 0)).toNat)]), ⟨hlt, ?_, ?_, ?_⟩, ?_, ?_, ?_⟩
         · dsimp only; omega
         · simp only [List.length_append, List.length_cons, List.length_nil]; omega
         · dsimp only; rw [he, getA_num hlt h1 h2, List.drop_drop]
         · dsimp only; omega
         · have : ((p + (absI (w.getD i 0)).toNat : Nat) : Int) = p + w.getD i 0 := by rw [hab]; omega
           simp only [this]; rfl
         · simp only [hab, ← hsl]; rfl)
      | (have hz : b.getD k 0 = 0 := by assumption
         exact ⟨k + 1, ⟨by omega, by omega, zeroT_step (by omega) hk3 hk1 hz⟩, by omega, rfl, rfl⟩)
      | (have hz : ¬ b.getD k 0 = 0 := by assumption
         have h2 : ¬ 0 < w.getD i 0 := by assumption
         have hab : absI (w.getD i 0) = -w.getD i 0 := absI_neg (by omega)
         have h1 : ¬ ((b.drop p).length : Int) < absI (w.getD i 0) := by rw [hdl]; omega
         have h3 : zeroL ((b.drop p).take (absI (w.getD i 0)).toNat) = false := zeroT_odd (by omega) hk1 (by omega) hz
         have hf : getF w b = ([], 2) := by unfold getF; rw [if_pos hr, he]; exact getA_odd hlt h1 h2 h3
         refine ⟨?_, rfl⟩; unfold getL getK; rw [hf]; done)
      | (have h2 : ¬ 0 < w.getD i 0 := by assumption
         have hab : absI (w.getD i 0) = -w.getD i 0 := absI_neg (by omega)
         have h1 : ¬ ((b.drop p).length : Int) < absI (w.getD i 0) := by rw [hdl]; omega
         have hke : k - p = (absI (w.getD i 0)).toNat := by omega
         rw [hke] at hk3
         refine ⟨(i + 1, p + (absI (w.getD i 0)).toNat, o), ⟨hlt, ?_, ?_, ?_⟩, ?_, ?_, rfl⟩
         · dsimp only; omega
         · dsimp only; omega
         · dsimp only; rw [he, getA_zero hlt h1 h2 hk3, List.drop_drop]
         · dsimp only; omega
         · have : ((p + (absI (w.getD i 0)).toNat : Nat) : Int) = p + (0 - w.getD i 0) := by rw [hab]; omega
           simp only [this]; rfl)
  · cases e
end Go.Eng
namespace Go.Eng
open Go.Proofs
set_option linter.unusedVariables false
set_option linter.unusedSimpArgs false
set_option maxRecDepth 100000
set_option maxHeartbeats 1000000
abbrev P8 := Int × Int × Int × Int × Int × Int × Int × Int × Unit
abbrev PV := Int × Int × List Int × P8 × Unit
instance : DecidableEq (Int × Int × Int × Int × Unit) := inferInstance
instance : DecidableEq P8 := inferInstance
instance : DecidableEq PV := inferInstance
theorem all_take {α : Type} {f : α → Bool} {l : List α} {i : Nat} {d : α} (h : i < l.length) (ht : (l.take i).all f = true) (hd : f (l.getD i d) = true) : (l.take (i + 1)).all f = true := by
  rw [List.take_succ_eq_append_getElem h, List.all_append, ht, Bool.true_and, List.all_cons, List.all_nil, Bool.and_true]
  rwa [List.getD_eq_getElem?_getD, List.getElem?_eq_getElem h] at hd
theorem all_end {α : Type} {f : α → Bool} {l : List α} {i : Nat} (h : l.length ≤ i) (ht : (l.take i).all f = true) : l.all f = true := by
  rwa [List.take_of_length_le h] at ht
theorem all_no {α : Type} {f : α → Bool} {l : List α} {i : Nat} {d : α} (h : i < l.length) (hd : f (l.getD i d) = false) : l.all f = false := by
  rw [List.all_eq_false]
  refine ⟨l.getD i d, getD_mem' h d, ?_⟩
  rw [hd]; decide
def fewP (l : List PV) : Bool := decide (l.length ≤ 40) && l.all fun p => decide (p.2.2.1.length ≤ 100)
def ir_r19_Few : IR :=
(.seq
(.keep [0]
(.reg [oD 2 (.mov cF)]))
(.seq
(.seq
(.reg [oD 3 (.mov (cI 0))])
(.block 0
(.loop
(.seq
(.seq
(.keep [0, 3]
(.reg [oM 4 3,
oM 5 0,
oE 6 5,
oB 7 .lss (.t 4) (.t 6)]))
(.cond (.t 7)
.skip
(.exit 0)))
(.seq
(.block 1
(.seq
(.keep [0, 3]
(.reg [oM 10 0,
oM 11 3,
oI 12 11 10 11,
oA 13 2 12,
oL 14 13,
oD 15 (.slen (.t 14)),
oB 16 .gtr (.t 15) (cI 100)]))
(.cond (.t 16)
(.seq
(.keep []
(.reg [oD 2 (.mov cF)]))
.ret)
.skip)))
(.keep [0, 3]
(.reg [oM 8 3,
oB 9 .add (.t 8) (cI 1),
oM 3 9])))))))
(.seq
(.keep [0]
(.reg [oM 17 0,
oE 18 17,
oB 19 .leq (.t 18) (cI 40),
oM 2 19]))
.ret)))
def rd_r19_Few : List RD := [.tmp 2 true none]
theorem ok_r19_Few : fnOk Tryz.prog Tryz.f44 ir_r19_Few rd_r19_Few = true := by kernel_rfl
def S_r19_Few : List AV → List Obj → Option (Prop × AV)
  | [.imm ty0 l], [] => castO ty0 Y8 l fun l => some ((True, .bool (fewP l)))
  | _, _ => none
theorem snd_r19_Few : SoundS Tryz.prog 44 (RoF S_r19_Few).sum := by
  refine ro_fn Tryz.func44 ok_r19_Few (env_nil _) fun args objs p v e => ?_
  unfold S_r19_Few at e
  split at e
  · rename_i ty0 l
    obtain rfl := castO_ty e
    replace e := castO_go e
    cases e
    refine ⟨rfl, fun hw ho hp => ?_⟩
    change List PV at l
    have hl : l.length ≤ maxLen := (hw (.imm Y8 l) (by simp)).2
    unfold maxLen at hl
    clear hw ho
    repeat' (intro t ht; first | (cases t <;> first | (cases ht; done) | ((try simp only [bn_s] at ht); (try simp only [nd_s] at ht))) | (refine castG_go ht ?_; clear ht) | (refine ht ?_ ?_ <;> clear ht) | (refine ht.1 ?_ ?_ <;> clear ht) | (refine ht ?_; clear ht))
    all_goals first
      | (intro r h1 h2; clear h1; refine h2 ⟨[0, 3], Nat, (fun i => i ≤ l.length ∧ ((l.take i).all fun p => decide (p.2.2.1.length ≤ 100)) = true), fun i => [.imm Y8 l, .int .i64 i], fun _ => [], fun i => l.length - i, ⟨0, ⟨Nat.zero_le _, rfl⟩, rfl, rfl⟩, ?_⟩; clear h2)
    rintro i ⟨hi, he⟩
    repeat' (intro t ht; first | (cases t <;> first | (cases ht; done) | ((try simp only [bn_s] at ht); (try simp only [nd_s] at ht); (try (exfalso; first | contradiction | omega)))) | (refine castG_go ht ?_; clear ht) | (refine ht ?_ ?_ <;> clear ht) | (refine ht.1 ?_ ?_ <;> clear ht) | (refine ht ?_; clear ht))
    all_goals (try generalize (Ty.dflt Y8) = pd at *)
    all_goals first
      | ((try simp only [nd_s, bn_s, mm_s] at *); omega)
      | (have h := all_end (by omega) he
         refine ⟨?_, rfl⟩; unfold fewP; rw [h, Bool.and_true]; congr 1; exact decide_eq_decide.2 (by omega))
      | (have h : fewP l = false := by
           unfold fewP; rw [all_no (d := pd) (i := i) (by omega) (decide_eq_false (by omega)), Bool.and_false]
         refine ⟨?_, rfl⟩; rw [h]; done)
      | exact ⟨i + 1, ⟨by omega, all_take (d := pd) (by omega) he (decide_eq_true (by omega))⟩, by dsimp only; omega, rfl, rfl⟩
      | trace_state
  · cases e
def okc (lo c : Int) : Bool := decide (lo ≤ c) && decide (c ≤ 126)
theorem okc_t {lo c : Int} : okc lo c = true ↔ lo ≤ c ∧ c ≤ 126 := by unfold okc; simp
theorem okc_f {lo c : Int} : okc lo c = false ↔ (c < lo ∨ 126 < c) := by unfold okc; simp; omega
def oddA (lo : Int) : List Int → Int → Int
  | [], _ => -1
  | c :: r, i => if okc lo c = true then oddA lo r (i + 1) else i
theorem oddA_ok {lo : Int} {s : List Int} {p : Nat} (h : p < s.length) (hk : okc lo (s.getD p 0) = true) : oddA lo (s.drop p) p = oddA lo (s.drop (p + 1)) ((p + 1 : Nat) : Int) := by
  rw [drop_step h 0]; exact if_pos hk
theorem oddA_no {lo : Int} {s : List Int} {p : Nat} (h : p < s.length) (hk : okc lo (s.getD p 0) = false) : oddA lo (s.drop p) p = p := by
  rw [drop_step h 0]; exact if_neg (by rw [hk]; decide)
theorem oddA_end {lo : Int} {s : List Int} {p : Nat} (h : s.length ≤ p) : oddA lo (s.drop p) p = -1 := by
  rw [List.drop_of_length_le h]; rfl
theorem oddA_sgn {lo : Int} : ∀ (s : List Int) (i : Int), 0 ≤ i → (0 ≤ oddA lo s i ↔ s.all (okc lo) = false)
  | [], i, h => by simp [oddA]
  | c :: r, i, h => by
    unfold oddA
    cases hk : okc lo c with
    | true =>
      rw [if_pos rfl, oddA_sgn r (i + 1) (by omega), List.all_cons, hk, Bool.true_and]
    | false =>
      rw [if_neg (by decide), List.all_cons, hk, Bool.false_and]
      simp [h]
theorem runeL_lo {s : List Int} {p : Nat} (h : (s.getD p 0).toNat < 128) : runeL s p = ((s.getD p 0).toNat, 1) := by
  unfold runeL; simp only [Nat.add_zero]; rw [if_pos (by omega)]
theorem runeL_hi {s : List Int} {p : Nat} (h : ¬ (s.getD p 0).toNat < 128) : 128 ≤ (runeL s p).1 := by
  unfold runeL; simp only [Nat.add_zero]; rw [if_neg (by omega)]
  have e : 128 ≤ Utf8.runeError := by decide
  repeat' (first | split | assumption)
  all_goals (try simp only [Bool.and_eq_true, decide_eq_true_eq, beq_iff_eq] at *)
  all_goals omega
theorem rune_okc {lo : Int} {s : List Int} {p : Nat} (hx : 0 ≤ s.getD p 0) : okc lo (runeL s p).1 = okc lo (s.getD p 0) ∧ (okc lo (s.getD p 0) = true → (runeL s p).2 = 1) := by
  by_cases h : (s.getD p 0).toNat < 128
  · rw [runeL_lo h]
    have e : ((s.getD p 0).toNat : Int) = s.getD p 0 := by omega
    dsimp only; rw [e]; exact ⟨rfl, fun _ => rfl⟩
  · have h1 := runeL_hi h
    have h2 : okc lo (runeL s p).1 = false := okc_f.2 (by omega)
    have h3 : okc lo (s.getD p 0) = false := okc_f.2 (by omega)
    rw [h2, h3]; exact ⟨rfl, fun h => by cases h⟩
def ir_tally_text_1 : IR :=
(.seq
(.keep [0]
(.reg [oD 2 (.mov cF)]))
(.seq
(.keep [0]
(.reg [oM 3 0,
oB 4 .lss (.t 3) (.c (.int .i32 32)),
oM 5 4,
oF 5 6 (.mov (.t 0)),
oF 5 7 (.bin .gtr (.t 6) (.c (.int .i32 126))),
oP 8 5 cT (.t 7),
oM 2 8]))
.ret))
def rd_tally_text_1 : List RD := [.tmp 2 true none]
theorem ok_tally_text_1 : fnOk Tryz.prog Tryz.f93 ir_tally_text_1 rd_tally_text_1 = true := by kernel_rfl
def S_tally_text_1 : List AV → List Obj → Option (Prop × AV)
  | [.int .i32 c], [] => some ((True, .bool (!okc 32 c)))
  | _, _ => none
theorem snd_tally_text_1 : SoundS Tryz.prog 93 (RoF S_tally_text_1).sum := by
  refine ro_fn Tryz.func93 ok_tally_text_1 (env_nil _) fun args objs p v e => ?_
  unfold S_tally_text_1 at e
  split at e
  · rename_i c
    cases e
    refine ⟨rfl, fun hw ho hp => ?_⟩
    repeat' (intro t ht; first | (cases t <;> first | (cases ht; done) | ((try simp only [bn_s] at ht); (try simp only [nd_s] at ht))) | (refine castG_go ht ?_; clear ht) | (refine ht ?_ ?_ <;> clear ht) | (refine ht.1 ?_ ?_ <;> clear ht) | (refine ht ?_; clear ht))
    all_goals first
      | (have h : okc 32 c = false := okc_f.2 (by omega)
         refine ⟨?_, rfl⟩; rw [h]; rfl)
      | (refine ⟨?_, rfl⟩; unfold okc; rw [decide_eq_true (show (32 : Int) ≤ c by omega), Bool.true_and]; congr 1; rw [← decide_not]; congr 1; exact propext (by omega))
      | trace_state
  · cases e
def ir_strings_indexFunc : IR :=
(.seq
(.keep [0, 1, 2]
(.reg [oD 6 (.mov (cI 0))]))
(.seq
(.seq
(.reg [oM 9 0,
oD 10 (.rngs (.t 9))])
(.block 0
(.loop
(.seq
(.keep [1, 2, 10]
(.reg [oD 11 (.nxts (.t 10)),
oX 12 11 0]))
(.seq
(.cond (.t 12)
.skip
(.exit 0))
(.block 1
(.seq
(.reg [oX 13 11 1,
oX 14 11 2,
oM 7 13,
oM 8 14])
(.seq
(.keep [1, 2, 7, 8, 10]
(.reg [oM 15 1,
oM 16 8,
oD 17 (.call false (.t 15) [.t 16]),
oM 18 2,
oD 19 (.eqb false (.t 17) (.t 18))]))
(.cond (.t 19)
(.seq
(.reg [oM 20 7,
oM 6 20])
.ret)
.skip)))))))))
(.seq
(.keep []
(.reg [oD 6 (.mov (cI (-1)))]))
.ret)))
def rd_strings_indexFunc : List RD := [.tmp 6 true none]
theorem ok_strings_indexFunc : fnOk Tryz.prog Tryz.f150 ir_strings_indexFunc rd_strings_indexFunc = true := by kernel_rfl
def S_strings_indexFunc : List AV → List Obj → Option (Prop × AV)
  | [.str s, .fn 93 [] [], .bool t], [] => some ((t = true, .int .i64 (oddA 32 s 0)))
  | _, _ => none
theorem snd_strings_indexFunc : SoundS Tryz.prog 150 (RoF S_strings_indexFunc).sum := by
  refine ro_fn Tryz.func150 ok_strings_indexFunc (env_cons (s := RoF S_tally_text_1) snd_tally_text_1 (env_nil _)) fun args objs p v e => ?_
  unfold S_strings_indexFunc at e
  split at e
  · rename_i s t
    cases e
    refine ⟨rfl, fun hw ho hp => ?_⟩
    obtain ⟨hb, hl⟩ : (∀ x ∈ s, 0 ≤ x ∧ x ≤ 255) ∧ s.length ≤ maxLen := hw (.str s) (by simp)
    subst hp
    unfold maxLen at hl
    clear hw ho
    repeat' (intro t ht; first | (cases t <;> first | (cases ht; done) | ((try simp only [bn_s] at ht); (try simp only [nd_s] at ht))) | (refine castG_go ht ?_; clear ht) | (refine ht ?_ ?_ <;> clear ht) | (refine ht.1 ?_ ?_ <;> clear ht) | (refine ht ?_; clear ht))
    all_goals first
      | (intro r h1 h2; clear h1; refine h2 ⟨[1, 2, 10], Nat, (fun p => p ≤ s.length ∧ oddA 32 s 0 = oddA 32 (s.drop p) p), fun p => [.fn 93 [] [], .bool true, .ptr 0 0], fun p => [.iter s p], fun p => s.length - p, ⟨0, ⟨Nat.zero_le _, rfl⟩, rfl, rfl⟩, ?_⟩; clear h2)
    rintro p ⟨hp, he⟩
    repeat' (intro t ht; first | (cases t <;> first | (cases ht; done) | ((try simp only [bn_s] at ht); (try simp only [nd_s] at ht); (try (exfalso; first | contradiction | omega)))) | (refine castG_go ht ?_; clear ht) | (refine ht ?_ ?_ <;> clear ht) | (refine ht.1 ?_ ?_ <;> clear ht) | (refine ht ?_; clear ht))
    all_goals first
      | exact True.intro
      | (refine ⟨?_, rfl⟩; rw [he, oddA_end (by omega)]; done)
      | (obtain ⟨k1, k2⟩ := rune_okc (lo := 32) (hb _ (getD_mem' (α := Int) (l := s) (j := p) (by omega) 0)).1
         cases hk : okc 32 (s.getD p 0) with
         | true =>
           rw [k1, hk] at ht
           first
             | (exfalso; revert ht; decide)
             | (refine ⟨p + 1, ⟨by omega, ?_⟩, by dsimp only; omega, rfl, by rw [k2 hk]⟩
                rw [he]; exact oddA_ok (by omega) hk)
         | false =>
           rw [k1, hk] at ht
           first
             | (exfalso; revert ht; decide)
             | (refine ⟨?_, rfl⟩; rw [he, oddA_no (by omega) hk]))
      | trace_state
  · cases e
def ir_strings_IndexFunc : IR :=
(.seq
(.keep [0, 1]
(.reg [oD 4 (.mov (cI 0))]))
(.seq
(.reg [oM 5 0,
oM 6 1,
oC 7 150 [.t 5, .t 6, cT],
oM 4 7])
.ret))
def rd_strings_IndexFunc : List RD := [.tmp 4 true none]
theorem ok_strings_IndexFunc : fnOk Tryz.prog Tryz.f132 ir_strings_IndexFunc rd_strings_IndexFunc = true := by kernel_rfl
def S_strings_IndexFunc : List AV → List Obj → Option (Prop × AV)
  | [.str s, .fn 93 [] []], [] => some ((True, .int .i64 (oddA 32 s 0)))
  | _, _ => none
theorem snd_strings_IndexFunc : SoundS Tryz.prog 132 (RoF S_strings_IndexFunc).sum := by
  refine ro_fn Tryz.func132 ok_strings_IndexFunc (env_cons (s := RoF S_strings_indexFunc) snd_strings_indexFunc (env_nil _)) fun args objs p v e => ?_
  unfold S_strings_IndexFunc at e
  split at e
  · rename_i s
    cases e
    refine ⟨rfl, fun hw ho hp => ?_⟩
    repeat' (intro t ht; first | (cases t <;> first | (cases ht; done) | ((try simp only [bn_s] at ht); (try simp only [nd_s] at ht); (try (exfalso; first | contradiction | omega)))) | (refine castG_go ht ?_; clear ht) | (refine ht ?_ ?_ <;> clear ht) | (refine ht.1 ?_ ?_ <;> clear ht) | (refine ht ?_; clear ht))
    all_goals first
      | exact True.intro
      | exact ⟨rfl, rfl⟩
      | exact rfl
  · cases e
def ir_strings_ContainsFunc : IR :=
(.seq
(.keep [0, 1]
(.reg [oD 4 (.mov cF)]))
(.seq
(.keep [0, 1]
(.reg [oM 5 0,
oM 6 1,
oC 7 132 [.t 5, .t 6],
oB 8 .geq (.t 7) (cI 0),
oM 4 8]))
.ret))
def rd_strings_ContainsFunc : List RD := [.tmp 4 true none]
theorem ok_strings_ContainsFunc : fnOk Tryz.prog Tryz.f94 ir_strings_ContainsFunc rd_strings_ContainsFunc = true := by kernel_rfl
def S_strings_ContainsFunc : List AV → List Obj → Option (Prop × AV)
  | [.str s, .fn 93 [] []], [] => some ((True, .bool (!(s.all (okc 32)))))
  | _, _ => none
theorem snd_strings_ContainsFunc : SoundS Tryz.prog 94 (RoF S_strings_ContainsFunc).sum := by
  refine ro_fn Tryz.func94 ok_strings_ContainsFunc (env_cons (s := RoF S_strings_IndexFunc) snd_strings_IndexFunc (env_nil _)) fun args objs p v e => ?_
  unfold S_strings_ContainsFunc at e
  split at e
  · rename_i s
    cases e
    refine ⟨rfl, fun hw ho hp => ?_⟩
    have h := oddA_sgn (lo := 32) s 0 (by omega)
    have h2 : decide (0 ≤ oddA 32 s 0) = !(s.all (okc 32)) := by
      cases hk : s.all (okc 32) with
      | true => exact decide_eq_false (fun h' => by rw [h.1 h'] at hk; cases hk)
      | false => exact decide_eq_true (h.2 hk)
    repeat' (intro t ht; first | (cases t <;> first | (cases ht; done) | ((try simp only [bn_s] at ht); (try simp only [nd_s] at ht); (try (exfalso; first | contradiction | omega)))) | (refine castG_go ht ?_; clear ht) | (refine ht ?_ ?_ <;> clear ht) | (refine ht.1 ?_ ?_ <;> clear ht) | (refine ht ?_; clear ht))
    all_goals first
      | exact True.intro
      | exact ⟨congrArg AV.bool h2, rfl⟩
  · cases e
theorem eqP_eq (a b : PV) : (decide (a.1 = b.1) && (decide (a.2.1 = b.2.1) && (decide (a.2.2.1 = b.2.2.1) && (decide (a.2.2.2.1.1 = b.2.2.2.1.1) && (decide (a.2.2.2.1.2.1 = b.2.2.2.1.2.1) && (decide (a.2.2.2.1.2.2.1 = b.2.2.2.1.2.2.1) && (decide (a.2.2.2.1.2.2.2.1 = b.2.2.2.1.2.2.2.1) && (decide (a.2.2.2.1.2.2.2.2.1 = b.2.2.2.1.2.2.2.2.1) && (decide (a.2.2.2.1.2.2.2.2.2.1 = b.2.2.2.1.2.2.2.2.2.1) && (decide (a.2.2.2.1.2.2.2.2.2.2.1 = b.2.2.2.1.2.2.2.2.2.2.1) && (decide (a.2.2.2.1.2.2.2.2.2.2.2.1 = b.2.2.2.1.2.2.2.2.2.2.2.1) && true))))))))))) = decide (a = b) := by
  obtain ⟨a1, a2, a3, ⟨a4, a5, a6, a7, a8, a9, a10, a11, _⟩, _⟩ := a
  obtain ⟨b1, b2, b3, ⟨b4, b5, b6, b7, b8, b9, b10, b11, _⟩, _⟩ := b
  rw [Bool.eq_iff_iff]
  simp only [Bool.and_eq_true, decide_eq_true_eq, Prod.mk.injEq, and_true, and_assoc]
theorem eqP_and {a b : PV} (h : a.1 = b.1 ∧ a.2.1 = b.2.1 ∧ a.2.2.1 = b.2.2.1 ∧ a.2.2.2.1.1 = b.2.2.2.1.1 ∧ a.2.2.2.1.2.1 = b.2.2.2.1.2.1 ∧ a.2.2.2.1.2.2.1 = b.2.2.2.1.2.2.1 ∧ a.2.2.2.1.2.2.2.1 = b.2.2.2.1.2.2.2.1 ∧ a.2.2.2.1.2.2.2.2.1 = b.2.2.2.1.2.2.2.2.1 ∧ a.2.2.2.1.2.2.2.2.2.1 = b.2.2.2.1.2.2.2.2.2.1 ∧ a.2.2.2.1.2.2.2.2.2.2.1 = b.2.2.2.1.2.2.2.2.2.2.1 ∧ a.2.2.2.1.2.2.2.2.2.2.2.1 = b.2.2.2.1.2.2.2.2.2.2.2.1 ∧ True) : a = b := by
  obtain ⟨a1, a2, a3, ⟨a4, a5, a6, a7, a8, a9, a10, a11, _⟩, _⟩ := a
  obtain ⟨b1, b2, b3, ⟨b4, b5, b6, b7, b8, b9, b10, b11, _⟩, _⟩ := b
  simpa only [Prod.mk.injEq, and_true] using h
def ir_port_Same_1 : IR :=
(.seq
(.keep [0, 1]
(.reg [oD 2 (.boxv (.t 0)),
oD 3 (.boxv (.t 1)),
oD 4 (.mov cF)]))
(.seq
(.reg [oK 5 11 2,
oK 6 11 3,
oD 7 (.eqs false [.int .u64, .int .u64, .str, .int .u64, .int .u64, .int .u64, .int .u64, .int .u64, .int .u64, .int .u64, .int .u64] (.t 5) (.t 6)),
oM 4 7])
.ret))
def rd_port_Same_1 : List RD := [.tmp 4 true none]
theorem ok_port_Same_1 : fnOk Tryz.prog Tryz.f113 ir_port_Same_1 rd_port_Same_1 = true := by kernel_rfl
def S_port_Same_1 : List AV → List Obj → Option (Prop × AV)
  | [.agg [.int .u64 a1, .int .u64 a2, .str a3, .int .u64 a4, .int .u64 a5, .int .u64 a6, .int .u64 a7, .int .u64 a8, .int .u64 a9, .int .u64 a10, .int .u64 a11], .agg [.int .u64 b1, .int .u64 b2, .str b3, .int .u64 b4, .int .u64 b5, .int .u64 b6, .int .u64 b7, .int .u64 b8, .int .u64 b9, .int .u64 b10, .int .u64 b11]], [] => some ((True, .bool (decide (((a1, a2, a3, (a4, a5, a6, a7, a8, a9, a10, a11, ()), ()) : PV) = (b1, b2, b3, (b4, b5, b6, b7, b8, b9, b10, b11, ()), ())))))
  | _, _ => none
theorem snd_port_Same_1 : SoundS Tryz.prog 113 (RoF S_port_Same_1).sum := by
  refine ro_fn Tryz.func113 ok_port_Same_1 (env_nil _) fun args objs p v e => ?_
  unfold S_port_Same_1 at e
  split at e
  · rename_i a1 a2 a3 a4 a5 a6 a7 a8 a9 a10 a11 b1 b2 b3 b4 b5 b6 b7 b8 b9 b10 b11
    cases e
    refine ⟨rfl, fun hw ho hp => ?_⟩
    repeat' (intro t ht; first | (cases t <;> first | (cases ht; done) | ((try simp only [bn_s] at ht); (try simp only [nd_s] at ht); (try (exfalso; first | contradiction | omega)))) | (refine castG_go ht ?_; clear ht) | (refine ht ?_ ?_ <;> clear ht) | (refine ht.1 ?_ ?_ <;> clear ht) | (refine ht ?_; clear ht))
    all_goals exact ⟨congrArg AV.bool (eqP_eq (a1, a2, a3, (a4, a5, a6, a7, a8, a9, a10, a11, ()), ()) (b1, b2, b3, (b4, b5, b6, b7, b8, b9, b10, b11, ()), ())), rfl⟩
  · cases e
def ir_slices_EqualFunc_api_Port_api_Port_api_Port_api_Port : IR :=
(.seq
(.keep [0, 1, 2]
(.reg [oD 6 (.mov cF)]))
(.seq
(.seq
(.keep [0, 1, 2]
(.reg [oM 10 0,
oE 11 10,
oM 12 1,
oE 13 12,
oB 14 .neq (.t 11) (.t 13)]))
(.cond (.t 14)
(.seq
(.reg [oD 6 (.mov cF)])
.ret)
.skip))
(.seq
(.seq
(.keep [0, 1, 2]
(.reg [oM 15 0,
oE 16 15,
oD 17 (.mov (cI 0))]))
(.block 0
(.loop
(.seq
(.keep [1, 2, 15, 16, 17]
(.reg [oB 18 .lss (.t 17) (.t 16)]))
(.seq
(.cond (.t 18)
.skip
(.exit 0))
(.seq
(.block 1
(.seq
(.keep [1, 2, 15, 16, 17]
(.reg [oM 19 17,
oI 20 11 15 17,
oK 21 11 20,
oD 8 (.box [.int .u64 0, .int .u64 0, .str [], .int .u64 0, .int .u64 0, .int .u64 0, .int .u64 0, .int .u64 0, .int .u64 0, .int .u64 0, .int .u64 0]),
oM 7 19,
oS 11 8 21]))
(.seq
(.keep [1, 2, 7, 8, 15, 16, 17]
(.reg [oM 22 1,
oM 23 7,
oI 24 11 22 23,
oK 25 11 24,
oD 9 (.box [.int .u64 0, .int .u64 0, .str [], .int .u64 0, .int .u64 0, .int .u64 0, .int .u64 0, .int .u64 0, .int .u64 0, .int .u64 0, .int .u64 0]),
oS 11 9 25]))
(.seq
(.keep [1, 2, 8, 9, 15, 16, 17]
(.reg [oM 26 2,
oK 27 11 8,
oK 28 11 9,
oD 29 (.call false (.t 26) [.t 27, .t 28]),
oD 30 (.un .not (.t 29))]))
(.cond (.t 30)
(.seq
(.reg [oD 6 (.mov cF)])
.ret)
.skip)))))
(.keep [1, 2, 15, 16, 17]
(.reg [oB 31 .add (.t 17) (cI 1),
oM 17 31]))))))))
(.seq
(.keep []
(.reg [oD 6 (.mov cT)]))
.ret))))
def rd_slices_EqualFunc_api_Port_api_Port_api_Port_api_Port : List RD := [.tmp 6 true none]
theorem ok_slices_EqualFunc_api_Port_api_Port_api_Port_api_Port : fnOk Tryz.prog Tryz.f112 ir_slices_EqualFunc_api_Port_api_Port_api_Port_api_Port rd_slices_EqualFunc_api_Port_api_Port_api_Port_api_Port = true := by kernel_rfl
def S_slices_EqualFunc_api_Port_api_Port_api_Port_api_Port : List AV → List Obj → Option (Prop × AV)
  | [.imm ty0 a, .imm ty1 b, .fn 113 [] []], [] => castO ty0 Y8 a fun a => castO ty1 Y8 b fun b => some ((True, .bool (decide (a = b))))
  | _, _ => none
theorem snd_slices_EqualFunc_api_Port_api_Port_api_Port_api_Port : SoundS Tryz.prog 112 (RoF S_slices_EqualFunc_api_Port_api_Port_api_Port_api_Port).sum := by
  refine ro_fn Tryz.func112 ok_slices_EqualFunc_api_Port_api_Port_api_Port_api_Port (env_cons (s := RoF S_port_Same_1) snd_port_Same_1 (env_nil _)) fun args objs p v e => ?_
  unfold S_slices_EqualFunc_api_Port_api_Port_api_Port_api_Port at e
  split at e
  · rename_i ty0 a ty1 b
    obtain rfl := castO_ty e
    replace e := castO_go e
    obtain rfl := castO_ty e
    replace e := castO_go e
    cases e
    refine ⟨rfl, fun hw ho hp => ?_⟩
    change List PV at a
    change List PV at b
    have hl : a.length ≤ maxLen := (hw (.imm Y8 a) (by simp)).2
    unfold maxLen at hl
    clear hw ho
    repeat' (intro t ht; first | (cases t <;> first | (cases ht; done) | ((try simp only [bn_s] at ht); (try simp only [nd_s] at ht))) | (refine castG_go ht ?_; clear ht) | (refine ht ?_ ?_ <;> clear ht) | (refine ht.1 ?_ ?_ <;> clear ht) | (refine ht ?_; clear ht))
    all_goals first
      | (have hne : a ≠ b := fun h => (by assumption : ¬ (a.length : Int) = b.length) (by rw [h])
         refine ⟨?_, rfl⟩; rw [decide_eq_false hne]; done)
      | (intro r h1 h2; clear h1; refine h2 ⟨[1, 2, 15, 16, 17], Nat, (fun i => i ≤ a.length ∧ a.take i = b.take i), fun i => [.imm Y8 b, .fn 113 [] [], .imm Y8 a, .int .i64 a.length, .int .i64 i], fun _ => [], fun i => a.length - i, ⟨0, ⟨Nat.zero_le _, rfl⟩, rfl, rfl⟩, ?_⟩; clear h2)
    rintro i ⟨hi, he⟩
    have hl2 : a.length = b.length := by omega
    repeat' (intro t ht; first | (cases t <;> first | (cases ht; done) | ((try simp only [bn_s] at ht); (try simp only [nd_s] at ht); (try (exfalso; first | contradiction | omega)))) | (refine castG_go ht ?_; clear ht) | (refine ht ?_ ?_ <;> clear ht) | (refine ht.1 ?_ ?_ <;> clear ht) | (refine ht ?_; clear ht))
    all_goals (try generalize (Ty.dflt Y8) = pd at *)
    all_goals first
      | exact True.intro
      | ((try simp only [nd_s, bn_s, mm_s] at *); omega)
      | (have e := tkAll he (by omega) hl2
         refine ⟨?_, rfl⟩; rw [decide_eq_true e]; done)
      | (have hne : a ≠ b := tkNe (d := pd) (i := i) (by assumption)
         refine ⟨?_, rfl⟩; rw [decide_eq_false hne]; done)
      | exact ⟨i + 1, ⟨by omega, tkStep he (by omega) hl2 (d := pd) (by assumption)⟩, by (try simp only [nd_s, bn_s, mm_s] at *); omega, rfl, rfl⟩
      | trace_state
  · cases e
def ir_port_Same : IR :=
(.seq
(.keep [0, 1]
(.reg [oD 4 (.mov cF)]))
(.seq
(.reg [oM 5 0,
oM 6 1,
oC 7 112 [.t 5, .t 6, .f 113],
oM 4 7])
.ret))
def rd_port_Same : List RD := [.tmp 4 true none]
theorem ok_port_Same : fnOk Tryz.prog Tryz.f64 ir_port_Same rd_port_Same = true := by kernel_rfl
def S_port_Same : List AV → List Obj → Option (Prop × AV)
  | [.imm ty0 a, .imm ty1 b], [] => castO ty0 Y8 a fun a => castO ty1 Y8 b fun b => some ((True, .bool (decide ((a : List PV) = b))))
  | _, _ => none
theorem snd_port_Same : SoundS Tryz.prog 64 (RoF S_port_Same).sum := by
  refine ro_fn Tryz.func64 ok_port_Same (env_cons (s := RoF S_slices_EqualFunc_api_Port_api_Port_api_Port_api_Port) snd_slices_EqualFunc_api_Port_api_Port_api_Port_api_Port (env_cons (s := RoF S_port_Same_1) snd_port_Same_1 (env_nil _))) fun args objs p v e => ?_
  unfold S_port_Same at e
  split at e
  · rename_i ty0 a ty1 b
    obtain rfl := castO_ty e
    replace e := castO_go e
    obtain rfl := castO_ty e
    replace e := castO_go e
    cases e
    refine ⟨rfl, fun hw ho hp => ?_⟩
    repeat' (intro t ht; first | (cases t <;> first | (cases ht; done) | ((try simp only [bn_s] at ht); (try simp only [nd_s] at ht); (try (exfalso; first | contradiction | omega)))) | (refine castG_go ht ?_; clear ht) | (refine ht ?_ ?_ <;> clear ht) | (refine ht.1 ?_ ?_ <;> clear ht) | (refine ht ?_; clear ht))
    all_goals first
      | exact True.intro
      | exact ⟨rfl, rfl⟩
      | exact rfl
  · cases e
def ir_r19_Same : IR :=
(.seq
(.keep [0, 1]
(.reg [oD 4 (.mov cF)]))
(.seq
(.seq
(.keep [0, 1]
(.reg [oM 8 0,
oE 9 8,
oM 10 1,
oE 11 10,
oB 12 .neq (.t 9) (.t 11)]))
(.cond (.t 12)
(.seq
(.reg [oD 4 (.mov cF)])
.ret)
.skip))
(.seq
(.seq
(.keep [0, 1]
(.reg [oD 5 (.mov (cI 0))]))
(.block 0
(.loop
(.seq
(.seq
(.keep [0, 1, 5]
(.reg [oM 13 5,
oM 14 0,
oE 15 14,
oB 16 .lss (.t 13) (.t 15)]))
(.cond (.t 16)
.skip
(.exit 0)))
(.seq
(.block 1
(.seq
(.keep [0, 1, 5]
(.regD [(oM 19 0, []),
(oM 20 5, [0]),
(oI 21 11 19 20, []),
(oK 22 11 21, []),
(oM 23 1, [0,0,0,0]),
(oM 24 5, [0,0,0,0,0]),
(oI 25 11 23 24, [2,0,0,0]),
(oK 26 11 25, [3,0,0,0]),
(oD 6 (.box [.int .u64 0, .int .u64 0, .str [], .int .u64 0, .int .u64 0, .int .u64 0, .int .u64 0, .int .u64 0, .int .u64 0, .int .u64 0, .int .u64 0]), [0,0,0,0,0,0,0,0]),
(oD 7 (.box [.int .u64 0, .int .u64 0, .str [], .int .u64 0, .int .u64 0, .int .u64 0, .int .u64 0, .int .u64 0, .int .u64 0, .int .u64 0, .int .u64 0]), [0,0,0,0,0,0,0,0,0]),
(oS 11 6 22, [2,0,0,0]),
(oS 11 7 26, [])]))
(.seq
(.keep [0, 1, 5, 6, 7]
(.reg [oK 27 11 6,
oK 28 11 7,
oD 29 (.eqs false [.int .u64, .int .u64, .str, .int .u64, .int .u64, .int .u64, .int .u64, .int .u64, .int .u64, .int .u64, .int .u64] (.t 27) (.t 28)),
oD 30 (.un .not (.t 29))]))
(.cond (.t 30)
(.seq
(.reg [oD 4 (.mov cF)])
.ret)
.skip))))
(.keep [0, 1, 5]
(.reg [oM 17 5,
oB 18 .add (.t 17) (cI 1),
oM 5 18])))))))
(.seq
(.keep []
(.reg [oD 4 (.mov cT)]))
.ret))))
def rd_r19_Same : List RD := [.tmp 4 true none]
theorem ok_r19_Same : fnOk Tryz.prog Tryz.f75 ir_r19_Same rd_r19_Same = true := by kernel_rfl
def S_r19_Same : List AV → List Obj → Option (Prop × AV)
  | [.imm ty0 a, .imm ty1 b], [] => castO ty0 Y8 a fun a => castO ty1 Y8 b fun b => some ((True, .bool (decide (a = b))))
  | _, _ => none
theorem snd_r19_Same : SoundS Tryz.prog 75 (RoF S_r19_Same).sum := by
  refine ro_fn Tryz.func75 ok_r19_Same (env_nil _) fun args objs p v e => ?_
  unfold S_r19_Same at e
  split at e
  · rename_i ty0 a ty1 b
    obtain rfl := castO_ty e
    replace e := castO_go e
    obtain rfl := castO_ty e
    replace e := castO_go e
    cases e
    refine ⟨rfl, fun hw ho hp => ?_⟩
    change List PV at a
    change List PV at b
    have hl : a.length ≤ maxLen := (hw (.imm Y8 a) (by simp)).2
    unfold maxLen at hl
    clear hw ho
    repeat' (intro t ht; first | (cases t <;> first | (cases ht; done) | ((try simp only [bn_s] at ht); (try simp only [nd_s] at ht))) | (refine castG_go ht ?_; clear ht) | (refine ht ?_ ?_ <;> clear ht) | (refine ht.1 ?_ ?_ <;> clear ht) | (refine ht ?_; clear ht))
    all_goals first
      | (have hne : a ≠ b := fun h => (by assumption : ¬ (a.length : Int) = b.length) (by rw [h])
         refine ⟨?_, rfl⟩; rw [decide_eq_false hne]; done)
      | (intro r h1 h2; clear h1; refine h2 ⟨[0, 1, 5], Nat, (fun i => i ≤ a.length ∧ a.take i = b.take i), fun i => [.imm Y8 a, .imm Y8 b, .int .i64 i], fun _ => [], fun i => a.length - i, ⟨0, ⟨Nat.zero_le _, rfl⟩, rfl, rfl⟩, ?_⟩; clear h2)
    rintro i ⟨hi, he⟩
    have hl2 : a.length = b.length := by omega
    repeat' (intro t ht; first | (cases t <;> first | (cases ht; done) | ((try simp only [bn_s] at ht); (try simp only [nd_s] at ht); (try (exfalso; first | contradiction | omega)))) | (refine castG_go ht ?_; clear ht) | (refine ht ?_ ?_ <;> clear ht) | (refine ht.1 ?_ ?_ <;> clear ht) | (refine ht ?_; clear ht))
    all_goals (try generalize (Ty.dflt Y8) = pd at *)
    all_goals first
      | exact True.intro
      | ((try simp only [nd_s, bn_s, mm_s] at *); omega)
      | (have e := tkAll he (by omega) hl2
         refine ⟨?_, rfl⟩; rw [decide_eq_true e]; done)
      | (have hne : a ≠ b := tkNe (d := pd) (i := i) (fun h => by rw [h] at ht; simp at ht)
         refine ⟨?_, rfl⟩; rw [decide_eq_false hne]; done)
      | exact ⟨i + 1, ⟨by omega, tkStep he (by omega) hl2 (d := pd) (eqP_and ht)⟩, by (try simp only [nd_s, bn_s, mm_s] at *); omega, rfl, rfl⟩
      | trace_state
  · cases e
end Go.Eng
namespace Go.Eng
open Go.Proofs
set_option linter.unusedVariables false
set_option linter.unusedSimpArgs false
set_option maxRecDepth 100000
set_option maxHeartbeats 1000000
def trimRn (b : List Int) (c : Int) : Nat → Nat
  | 0 => 0
  | k + 1 => if b.getD k 0 = c then trimRn b c k else k + 1
def trimR (b : List Int) (c : Int) : List Int := b.take (trimRn b c b.length)
def trimL (b : List Int) (c : Int) : List Int := b.dropWhile fun x => decide (x = c)
theorem take_getD {b : List Int} {k j : Nat} (h : j < k) : (b.take k).getD j 0 = b.getD j 0 := by
  rw [List.getD_eq_getElem?_getD, List.getElem?_take, if_pos h, ← List.getD_eq_getElem?_getD]
def ir_bytes_trimRightByte : IR :=
(.seq
(.keep [0, 1]
(.reg [oD 4 (.mov (.c (.imm (.int .u8) [])))]))
(.seq
(.block 0
(.loop
(.seq
(.seq
(.keep [0, 1]
(.reg [oM 5 0,
oE 6 5,
oB 7 .gtr (.t 6) (cI 0),
oM 8 7,
oT 8 9 (.mov (.t 0)),
oT 8 10 (.mov (.t 0)),
oT 8 11 (.len (.t 10)),
oT 8 12 (.bin .sub (.t 11) (cI 1)),
oT 8 13 (.indexSl 1 (.t 9) (.t 12)),
oT 8 14 (.load none (.t 13)),
oT 8 15 (.mov (.t 1)),
oT 8 16 (.bin .eql (.t 14) (.t 15)),
oP 17 8 (.t 16) cF]))
(.cond (.t 17)
.skip
(.exit 0)))
(.block 1
(.keep [0, 1]
(.reg [oM 18 0,
oM 19 0,
oE 20 19,
oB 21 .sub (.t 20) (cI 1),
oD 22 (.slice 1 (.t 18) none (some (.t 21)) none),
oM 0 22]))))))
(.seq
(.keep [0]
(.reg [oM 23 0,
oM 4 23]))
.ret)))
def rd_bytes_trimRightByte : List RD := [.tmp 4 true (some (.int .u8))]
theorem ok_bytes_trimRightByte : fnOk Tryz.prog Tryz.f121 ir_bytes_trimRightByte rd_bytes_trimRightByte = true := by kernel_rfl
def S_bytes_trimRightByte : List AV → List Obj → Option (Prop × AV)
  | [.imm (.int .u8) b, .int .u8 c], [] => some ((b.length ≤ 140737488355328, .imm (.int .u8) (trimR b c)))
  | _, _ => none
theorem snd_bytes_trimRightByte : SoundS Tryz.prog 121 (RoF S_bytes_trimRightByte).sum := by
  refine ro_fn Tryz.func121 ok_bytes_trimRightByte (env_nil _) fun args objs p v e => ?_
  unfold S_bytes_trimRightByte at e
  split at e
  · rename_i b c
    cases e
    refine ⟨rfl, fun hw ho hp => ?_⟩
    change List Int at b
    repeat' (intro t ht; first | (cases t <;> first | (cases ht; done) | ((try simp only [bn_s] at ht); (try simp only [nd_s] at ht))) | (refine castG_go ht ?_; clear ht) | (refine ht ?_ ?_ <;> clear ht) | (refine ht.1 ?_ ?_ <;> clear ht) | (refine ht ?_; clear ht))
    all_goals first
      | (intro r h1 h2; clear h1; refine h2 ⟨[0, 1], Nat, (fun k => k ≤ b.length ∧ trimRn b c b.length = trimRn b c k), fun k => [.imm (.int .u8) (b.take k), .int .u8 c], fun _ => [], fun k => k, ⟨b.length, ⟨Nat.le_refl _, rfl⟩, by simp only [List.take_length], rfl⟩, ?_⟩; clear h2)
    rintro k ⟨hk, he⟩
    have hl : (b.take k).length = k := by rw [List.length_take]; omega
    repeat' (intro t ht; first | (cases t <;> first | (cases ht; done) | ((try simp only [bn_s] at ht); (try simp only [nd_s] at ht))) | (refine castG_go ht ?_; clear ht) | (refine ht ?_ ?_ <;> clear ht) | (refine ht.1 ?_ ?_ <;> clear ht) | (refine ht ?_; clear ht))
    all_goals first
      | ((try simp only [nd_s, bn_s, mm_s] at *); omega)
      | (have h0 : k = 0 := by omega
         refine ⟨?_, rfl⟩; unfold trimR; rw [he, h0]; rfl)
      | (obtain ⟨j, rfl⟩ : ∃ j, k = j + 1 := ⟨k - 1, by omega⟩
         have e : (((b.take (j + 1)).length : Int) - 1).toNat = j := by omega
         first
           | (have hx : ¬ (b.take (j + 1)).getD (((b.take (j + 1)).length : Int) - 1).toNat 0 = c := by assumption
              rw [e, take_getD (Nat.lt_succ_self j)] at hx
              have h1 : trimRn b c (j + 1) = j + 1 := if_neg hx
              refine ⟨?_, rfl⟩; unfold trimR; rw [he, h1])
           | (have hx : (b.take (j + 1)).getD (((b.take (j + 1)).length : Int) - 1).toNat 0 = c := by assumption
              rw [e, take_getD (Nat.lt_succ_self j)] at hx
              have h1 : trimRn b c (j + 1) = trimRn b c j := if_pos hx
              refine ⟨j, ⟨by omega, by rw [he, h1]⟩, Nat.lt_succ_self j, ?_, rfl⟩
              dsimp only; rw [e, List.take_take, Nat.min_eq_left (Nat.le_succ j)]))
      | trace_state
  · cases e
def ir_bytes_trimLeftByte : IR :=
(.seq
(.keep [0, 1]
(.reg [oD 4 (.mov (.c (.imm (.int .u8) [])))]))
(.seq
(.block 0
(.loop
(.seq
(.seq
(.keep [0, 1]
(.reg [oM 5 0,
oE 6 5,
oB 7 .gtr (.t 6) (cI 0),
oM 8 7,
oT 8 9 (.mov (.t 0)),
oT 8 10 (.indexSl 1 (.t 9) (cI 0)),
oT 8 11 (.load none (.t 10)),
oT 8 12 (.mov (.t 1)),
oT 8 13 (.bin .eql (.t 11) (.t 12)),
oP 14 8 (.t 13) cF]))
(.cond (.t 14)
.skip
(.exit 0)))
(.block 1
(.keep [0, 1]
(.reg [oM 15 0,
oD 16 (.slice 1 (.t 15) (some (cI 1)) none none),
oM 0 16]))))))
(.seq
(.seq
(.keep [0]
(.reg [oM 17 0,
oE 18 17,
oB 19 .eql (.t 18) (cI 0)]))
(.cond (.t 19)
(.seq
(.reg [oD 4 (.mov (.c (.imm (.int .u8) [])))])
.ret)
.skip))
(.seq
(.reg [oM 20 0,
oM 4 20])
.ret))))
def rd_bytes_trimLeftByte : List RD := [.tmp 4 true (some (.int .u8))]
theorem ok_bytes_trimLeftByte : fnOk Tryz.prog Tryz.f120 ir_bytes_trimLeftByte rd_bytes_trimLeftByte = true := by kernel_rfl
def S_bytes_trimLeftByte : List AV → List Obj → Option (Prop × AV)
  | [.imm (.int .u8) b, .int .u8 c], [] => some ((b.length ≤ 140737488355328, .imm (.int .u8) (trimL b c)))
  | _, _ => none
theorem snd_bytes_trimLeftByte : SoundS Tryz.prog 120 (RoF S_bytes_trimLeftByte).sum := by
  refine ro_fn Tryz.func120 ok_bytes_trimLeftByte (env_nil _) fun args objs p v e => ?_
  unfold S_bytes_trimLeftByte at e
  split at e
  · rename_i b c
    cases e
    refine ⟨rfl, fun hw ho hp => ?_⟩
    change List Int at b
    repeat' (intro t ht; first | (cases t <;> first | (cases ht; done) | ((try simp only [bn_s] at ht); (try simp only [nd_s] at ht))) | (refine castG_go ht ?_; clear ht) | (refine ht ?_ ?_ <;> clear ht) | (refine ht.1 ?_ ?_ <;> clear ht) | (refine ht ?_; clear ht))
    all_goals first
      | (intro r h1 h2; clear h1; refine h2 ⟨[0, 1], Nat, (fun k => k ≤ b.length ∧ trimL b c = trimL (b.drop k) c), fun k => [.imm (.int .u8) (b.drop k), .int .u8 c], fun _ => [], fun k => b.length - k, ⟨0, ⟨Nat.zero_le _, rfl⟩, rfl, rfl⟩, ?_⟩; clear h2)
    rintro k ⟨hk, he⟩
    have hl : (b.drop k).length = b.length - k := List.length_drop
    repeat' (intro t ht; first | (cases t <;> first | (cases ht; done) | ((try simp only [bn_s] at ht); (try simp only [nd_s] at ht))) | (refine castG_go ht ?_; clear ht) | (refine ht ?_ ?_ <;> clear ht) | (refine ht.1 ?_ ?_ <;> clear ht) | (refine ht ?_; clear ht))
    all_goals first
      | ((try simp only [nd_s, bn_s, mm_s] at *); omega)
      | (exfalso; omega)
      | (have h0 : b.drop k = [] := List.eq_nil_of_length_eq_zero (by omega)
         refine ⟨?_, rfl⟩; rw [he, h0]; rfl)
      | (have hlt : k < b.length := by omega
         first
           | (have hx : ¬ (b.drop k).getD 0 0 = c := by assumption
              rw [getD_drop0] at hx
              have h1 : trimL (b.drop k) c = b.drop k := by
                unfold trimL; rw [drop_step hlt 0, List.dropWhile_cons_of_neg (by simpa using hx)]
              refine ⟨?_, rfl⟩; rw [he, h1])
           | (have hx : (b.drop k).getD 0 0 = c := by assumption
              rw [getD_drop0] at hx
              have h1 : trimL (b.drop k) c = trimL (b.drop (k + 1)) c := by
                unfold trimL; rw [drop_step hlt 0, List.dropWhile_cons_of_pos (by simpa using hx)]
              refine ⟨k + 1, ⟨hlt, by rw [he, h1]⟩, by dsimp only; omega, ?_, rfl⟩
              dsimp only; rw [← List.drop_drop]; rfl))
      | trace_state
  · cases e
theorem trim_zero : ∀ (b : List Int), decide ((trimL (trimR b 0) 0).length = 0) = zeroL b := by
  intro b
  have hR : ∀ k ≤ b.length, (b.take (trimRn b 0 k)).all (fun c => decide (c = 0)) = (b.take k).all fun c => decide (c = 0) := by
    intro k
    induction k with
    | zero => intro _; rfl
    | succ k ih =>
      intro hk
      unfold trimRn
      split
      · rename_i h
        rw [ih (by omega), List.take_succ_eq_append_getElem (by omega), List.all_append]
        have : b[k] = 0 := by rw [List.getD_eq_getElem?_getD, List.getElem?_eq_getElem (by omega)] at h; exact h
        simp [this]
      · rfl
  have hL : ∀ l : List Int, decide ((l.dropWhile fun x => decide (x = 0)).length = 0) = l.all fun c => decide (c = 0) := by
    intro l
    induction l with
    | nil => rfl
    | cons a l ih =>
      by_cases h : a = 0
      · rw [List.dropWhile_cons_of_pos (by simpa using h), ih]; simp [h]
      · rw [List.dropWhile_cons_of_neg (by simpa using h)]; simp [h]
  unfold trimL trimR zeroL
  rw [hL, hR _ (Nat.le_refl _), List.take_length]
def ir_bytes_Trim : IR :=
(.seq
(.keep [0, 1]
(.reg [oD 4 (.mov (.c (.imm (.int .u8) [])))]))
(.seq
(.seq
(.reg [oM 7 0,
oE 8 7,
oB 9 .eql (.t 8) (cI 0)])
(.cond (.t 9)
(.seq
(.reg [oD 4 (.mov (.c (.imm (.int .u8) [])))])
.ret)
.skip))
(.seq
(.seq
(.reg [oM 10 1,
oB 11 .eql (.t 10) (.c (.str []))])
(.cond (.t 11)
(.seq
(.keep [0]
(.reg [oM 12 0,
oM 4 12]))
.ret)
.skip))
(.seq
(.seq
(.keep [0, 1]
(.reg [oM 13 1,
oD 14 (.slen (.t 13)),
oB 15 .eql (.t 14) (cI 1),
oM 16 15,
oT 16 17 (.mov (.t 1)),
oT 16 18 (.sindex (.t 17) (cI 0)),
oT 16 19 (.bin .lss (.t 18) (.c (.int .u8 128))),
oP 20 16 (.t 19) cF]))
(.cond (.t 20)
(.seq
(.keep [0, 1]
(.regD [(oM 21 0, []),
(oM 22 1, [0]),
(oD 23 (.sindex (.t 22) (cI 0)), [1]),
(oC 24 121 [.t 21, .t 23], []),
(oM 25 1, [0,0,0,0]),
(oD 26 (.sindex (.t 25) (cI 0)), [1,0,0,0]),
(oC 27 120 [.t 24, .t 26], []),
(oM 4 27, [])]))
.ret)
.skip))
(.seq
(.seq
(.keep [0, 1]
(.reg [oM 29 1,
oC 30 122 [.t 29],
oM 28 30,
oX 31 28 0,
oX 32 28 1,
oD 5 (.box [.kb false, .kb false, .kb false, .kb false, .kb false, .kb false, .kb false, .kb false, .kb false, .kb false, .kb false, .kb false, .kb false, .kb false, .kb false, .kb false, .kb false, .kb false, .kb false, .kb false, .kb false, .kb false, .kb false, .kb false, .kb false, .kb false, .kb false, .kb false, .kb false, .kb false, .kb false, .kb false, .kb false, .kb false, .kb false, .kb false, .kb false, .kb false, .kb false, .kb false, .kb false, .kb false, .kb false, .kb false, .kb false, .kb false, .kb false, .kb false, .kb false, .kb false, .kb false, .kb false, .kb false, .kb false, .kb false, .kb false, .kb false, .kb false, .kb false, .kb false, .kb false, .kb false, .kb false, .kb false, .kb false, .kb false, .kb false, .kb false, .kb false, .kb false, .kb false, .kb false, .kb false, .kb false, .kb false, .kb false, .kb false, .kb false, .kb false, .kb false, .kb false, .kb false, .kb false, .kb false, .kb false, .kb false, .kb false, .kb false, .kb false, .kb false, .kb false, .kb false, .kb false, .kb false, .kb false, .kb false, .kb false, .kb false, .kb false, .kb false, .kb false, .kb false, .kb false, .kb false, .kb false, .kb false, .kb false, .kb false, .kb false, .kb false, .kb false, .kb false, .kb false, .kb false, .kb false, .kb false, .kb false, .kb false, .kb false, .kb false, .kb false, .kb false, .kb false, .kb false, .kb false, .kb false, .kb false, .kb false, .kb false, .kb false, .kb false, .kb false, .kb false, .kb false, .kb false, .kb false, .kb false, .kb false, .kb false, .kb false, .kb false, .kb false, .kb false, .kb false, .kb false, .kb false, .kb false, .kb false, .kb false, .kb false, .kb false, .kb false, .kb false, .kb false, .kb false, .kb false, .kb false, .kb false, .kb false, .kb false, .kb false, .kb false, .kb false, .kb false, .kb false, .kb false, .kb false, .kb false, .kb false, .kb false, .kb false, .kb false, .kb false, .kb false, .kb false, .kb false, .kb false, .kb false, .kb false, .kb false, .kb false, .kb false, .kb false, .kb false, .kb false, .kb false, .kb false, .kb false, .kb false, .kb false, .kb false, .kb false, .kb false, .kb false, .kb false, .kb false, .kb false, .kb false, .kb false, .kb false, .kb false, .kb false, .kb false, .kb false, .kb false, .kb false, .kb false, .kb false, .kb false, .kb false, .kb false, .kb false, .kb false, .kb false, .kb false, .kb false, .kb false, .kb false, .kb false, .kb false, .kb false, .kb false, .kb false, .kb false, .kb false, .kb false, .kb false, .kb false, .kb false, .kb false, .kb false, .kb false, .kb false, .kb false, .kb false, .kb false, .kb false, .kb false, .kb false, .kb false, .kb false, .kb false, .kb false, .kb false, .kb false, .kb false, .kb false, .kb false, .kb false, .kb false, .kb false, .kb false, .kb false, .kb false, .kb false, .kb false]),
oS 256 5 31,
oM 6 32]))
(.seq
(.keep [0, 1, 5, 6]
(.reg [oM 33 6]))
(.cond (.t 33)
(.seq
(.reg [oM 34 0,
oC 35 124 [.t 34, .t 5],
oC 36 123 [.t 35, .t 5],
oM 4 36])
.ret)
.skip)))
(.seq
(.keep [0, 1]
(.reg [oM 37 0,
oM 38 1,
oC 39 126 [.t 37, .t 38],
oM 40 1,
oC 41 125 [.t 39, .t 40],
oM 4 41]))
.ret))))))
def rd_bytes_Trim : List RD := [.tmp 4 true (some (.int .u8))]
theorem ok_bytes_Trim : fnOk Tryz.prog Tryz.f82 ir_bytes_Trim rd_bytes_Trim = true := by kernel_rfl
def S_bytes_Trim : List AV → List Obj → Option (Prop × AV)
  | [.imm (.int .u8) b, .str [0]], [] => some ((b.length ≤ 140737488355328, .imm (.int .u8) (trimL (trimR b 0) 0)))
  | _, _ => none
theorem snd_bytes_Trim : SoundS Tryz.prog 82 (RoF S_bytes_Trim).sum := by
  refine ro_fn Tryz.func82 ok_bytes_Trim (env_cons (s := RoF S_bytes_trimRightByte) snd_bytes_trimRightByte (env_cons (s := RoF S_bytes_trimLeftByte) snd_bytes_trimLeftByte (env_nil _))) fun args objs p v e => ?_
  unfold S_bytes_Trim at e
  split at e
  · rename_i b
    cases e
    refine ⟨rfl, fun hw ho hp => ?_⟩
    change List Int at b
    have hl : (trimR b 0).length ≤ b.length := by unfold trimR; rw [List.length_take]; omega
    repeat' (intro t ht; first | (cases t <;> first | (cases ht; done) | ((try simp only [bn_s] at ht); (try simp only [nd_s] at ht))) | (refine castG_go ht ?_; clear ht) | (refine ht ?_ ?_ <;> clear ht) | (refine ht.1 ?_ ?_ <;> clear ht) | (refine ht ?_; clear ht))
    all_goals first
      | exact hp
      | exact ⟨by decide, by decide⟩
      | exact Nat.le_trans hl hp
      | exact ⟨rfl, rfl⟩
      | (have hb : b = [] := List.eq_nil_of_length_eq_zero (by omega)
         refine ⟨?_, rfl⟩; rw [hb]; rfl)
      | trace_state
  · cases e
end Go.Eng
