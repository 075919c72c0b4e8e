/- Parts of the proof: R1, R4. No condition. -/
import Derived.Test.YtcgkajpmcbnmkaaGreatDoorProg
import Derived.Test.YtcgkajpmcbnmkaaGreatDoorWA10
import Derived.KernelRfl
namespace Go.Eng
open Go.Proofs
set_option linter.unusedVariables false
set_option linter.unusedSimpArgs false
set_option maxRecDepth 100000
set_option maxHeartbeats 1000000
theorem drop_step {α : Type} {l : List α} {i : Nat} (h : i < l.length) (d : α) : l.drop i = l.getD i d :: l.drop (i + 1) := by
  rw [List.drop_eq_getElem_cons h, List.getD_eq_getElem?_getD, List.getElem?_eq_getElem h]; rfl
theorem getD_mem' {α : Type} {l : List α} {j : Nat} (h : j < l.length) (d : α) : l.getD j d ∈ l := by
  rw [List.getD_eq_getElem?_getD, List.getElem?_eq_getElem h]; exact List.getElem_mem h
def okW (n : Int) : Bool := !(decide (n = 0) || decide (8 < n) || decide (n < -64))
theorem okW_t {n : Int} : okW n = true ↔ n ≠ 0 ∧ n ≤ 8 ∧ -64 ≤ n := by unfold okW; simp; omega
theorem okW_f {n : Int} : okW n = false ↔ ¬ (n ≠ 0 ∧ n ≤ 8 ∧ -64 ≤ n) := by rw [← okW_t]; simp
def rightF (w : List Int) : Bool := decide (w.length ≤ 64) && w.all okW
theorem rightF_t {w : List Int} : rightF w = true ↔ w.length ≤ 64 ∧ ∀ n ∈ w, n ≠ 0 ∧ n ≤ 8 ∧ -64 ≤ n := by
  unfold rightF; simp only [Bool.and_eq_true, decide_eq_true_eq, List.all_eq_true, okW_t]
def ir_row_Right : IR :=
(.seq
(.keep [0]
(.reg [oD 2 (.mov cF)]))
(.seq
(.seq
(.reg [oM 5 0,
oE 6 5,
oB 7 .gtr (.t 6) (cI 64)])
(.cond (.t 7)
(.seq
(.reg [oD 2 (.mov cF)])
.ret)
.skip))
(.seq
(.seq
(.reg [oM 8 0,
oE 9 8,
oD 10 (.mov (cI 0))])
(.block 0
(.loop
(.seq
(.keep [8, 9, 10]
(.reg [oB 11 .lss (.t 10) (.t 9)]))
(.seq
(.cond (.t 11)
.skip
(.exit 0))
(.seq
(.block 1
(.seq
(.reg [oI 12 1 8 10,
oL 13 12,
oM 4 13])
(.seq
(.keep [4, 8, 9, 10]
(.reg [oM 14 4,
oB 15 .eql (.t 14) (cI 0),
oM 16 15,
oF 16 17 (.mov (.t 4)),
oF 16 18 (.bin .gtr (.t 17) (cI 8)),
oP 19 16 cT (.t 18),
oM 20 19,
oF 20 21 (.mov (.t 4)),
oF 20 22 (.bin .lss (.t 21) (cI (-64))),
oP 23 20 cT (.t 22)]))
(.cond (.t 23)
(.seq
(.keep []
(.reg [oD 2 (.mov cF)]))
.ret)
.skip))))
(.keep [8, 9, 10]
(.reg [oB 24 .add (.t 10) (cI 1),
oM 10 24]))))))))
(.seq
(.keep []
(.reg [oD 2 (.mov cT)]))
.ret))))
def rd_row_Right : List RD := [.tmp 2 true none]
theorem ok_row_Right : fnOk Tryz.prog Tryz.f116 ir_row_Right rd_row_Right = true := by kernel_rfl
def S_row_Right : List AV → List Obj → Option (Prop × AV)
  | [.imm (.int .i64) w], [] => some ((True, .bool (rightF w)))
  | _, _ => none
theorem snd_row_Right : SoundS Tryz.prog 116 (RoF S_row_Right).sum := by
  refine ro_fn Tryz.func116 ok_row_Right (env_nil _) fun args objs p v e => ?_
  unfold S_row_Right at e
  split at e
  · rename_i w
    cases e
    refine ⟨rfl, fun hw ho hp => ?_⟩
    change List Int at w
    repeat' (intro t ht; first | (cases t <;> first | (cases ht; done) | ((try simp only [bn_s] at ht); (try simp only [nd_s] at ht))) | (refine castG_go ht ?_; clear ht) | (refine ht ?_ ?_ <;> clear ht) | (refine ht.1 ?_ ?_ <;> clear ht) | (refine ht ?_; clear ht))
    all_goals first
      | (have h64 : ¬ w.length ≤ 64 := by omega
         refine ⟨?_, rfl⟩; unfold rightF; rw [decide_eq_false h64]; rfl)
      | (intro r h1 h2; clear h1; refine h2 ⟨[8, 9, 10], Nat, (fun i => i ≤ w.length ∧ w.all okW = (w.drop i).all okW), fun i => [.imm (.int .i64) w, .int .i64 w.length, .int .i64 i], fun _ => [], fun i => w.length - i, ⟨0, ⟨Nat.zero_le _, rfl⟩, rfl, rfl⟩, ?_⟩; clear h2)
    rintro i ⟨hi, he⟩
    repeat' (intro t ht; first | (cases t <;> first | (cases ht; done) | ((try simp only [bn_s] at ht); (try simp only [nd_s] at ht))) | (refine castG_go ht ?_; clear ht) | (refine ht ?_ ?_ <;> clear ht) | (refine ht.1 ?_ ?_ <;> clear ht) | (refine ht ?_; clear ht))
    all_goals first
      | ((try simp only [nd_s, bn_s, mm_s] at *); omega)
      | (have h64 : w.length ≤ 64 := by omega
         have hge : w.length ≤ i := by omega
         refine ⟨?_, rfl⟩; unfold rightF; rw [he, decide_eq_true h64, List.drop_of_length_le hge]; rfl)
      | (have hlt : i < w.length := by omega
         rw [drop_step hlt 0, List.all_cons] at he
         first
           | (have hk : okW (w.getD i 0) = false := okW_f.2 (by omega)
              refine ⟨?_, rfl⟩; unfold rightF; rw [he, hk]; simp; done)
           | (have hk : okW (w.getD i 0) = true := okW_t.2 (by omega)
              rw [hk, Bool.true_and] at he
              exact ⟨i + 1, ⟨hlt, he⟩, by (try simp only [nd_s, bn_s, mm_s] at *); omega, rfl, rfl⟩))
  · cases e
def absI (n : Int) : Int := if 0 - n > n then 0 - n else n
theorem absI_neg {n : Int} (h : n < 0) : absI n = -n := by unfold absI; split <;> omega
theorem absI_nn {n : Int} (h : ¬ n < 0) : absI n = n := by unfold absI; split <;> omega
theorem absI_le {n : Int} : 0 ≤ absI n ∧ n ≤ absI n ∧ -n ≤ absI n ∧ (absI n = n ∨ absI n = -n) := by unfold absI; split <;> omega
def oneI (n : Int) : Int := if 0 < n then 1 else 0
def sumT (f : Int → Int) (w : List Int) (i : Nat) : Int := ((w.take i).map f).sum
theorem sumT_step (f : Int → Int) {l : List Int} {i : Nat} (h : i < l.length) : sumT f l (i + 1) = sumT f l i + f (l.getD i 0) := by
  unfold sumT
  rw [List.take_succ_eq_append_getElem h, List.map_append, List.sum_append]
  have : l.getD i 0 = l[i] := by rw [List.getD_eq_getElem?_getD, List.getElem?_eq_getElem h]; rfl
  rw [this]; simp
theorem sumT_end (f : Int → Int) {l : List Int} {i : Nat} (h : l.length ≤ i) : sumT f l i = (l.map f).sum := by
  unfold sumT; rw [List.take_of_length_le h]
theorem sum_nn : ∀ {l : List Int} {c : Int}, (∀ x ∈ l, 0 ≤ x ∧ x ≤ c) → 0 ≤ l.sum ∧ l.sum ≤ c * l.length
  | [], c, _ => by simp
  | x :: l, c, h => by
    have h1 := h x (by simp)
    have h2 := sum_nn (l := l) (c := c) fun y hy => h y (by simp [hy])
    rw [List.sum_cons, List.length_cons, Int.natCast_add, Int.mul_add]
    omega
theorem sumT_abs {w : List Int} (h : rightF w = true) (i : Nat) : 0 ≤ sumT absI w i ∧ sumT absI w i ≤ 4096 := by
  obtain ⟨h1, h2⟩ := rightF_t.1 h
  unfold sumT
  have := sum_nn (l := (w.take i).map absI) (c := 64) fun x hx => by
    obtain ⟨y, hy, rfl⟩ := List.mem_map.1 hx
    have := h2 y (List.mem_of_mem_take hy)
    have := absI_le (n := y); omega
  rw [List.length_map, List.length_take] at this
  omega
theorem sumT_one {w : List Int} (h : rightF w = true) (i : Nat) : 0 ≤ sumT oneI w i ∧ sumT oneI w i ≤ 64 := by
  obtain ⟨h1, h2⟩ := rightF_t.1 h
  unfold sumT
  have := sum_nn (l := (w.take i).map oneI) (c := 1) fun x hx => by
    obtain ⟨y, hy, rfl⟩ := List.mem_map.1 hx
    unfold oneI; split <;> omega
  rw [List.length_map, List.length_take] at this
  omega
def sizeW (w : List Int) : Int := if rightF w then (w.map absI).sum else 0
def countW (w : List Int) : Int := if rightF w then (w.map oneI).sum else 0
theorem sizeW_le (w : List Int) : 0 ≤ sizeW w ∧ sizeW w ≤ 4096 := by
  unfold sizeW; split
  · rename_i h; have := sumT_abs h w.length; rwa [sumT_end absI (Nat.le_refl _)] at this
  · omega
def ir_row_Size : IR :=
(.seq
(.keep [0]
(.reg [oD 2 (.mov (cI 0))]))
(.seq
(.seq
(.reg [oM 5 0,
oC 6 116 [.t 5],
oD 7 (.un .not (.t 6))])
(.cond (.t 7)
(.seq
(.reg [oD 2 (.mov (cI 0))])
.ret)
.skip))
(.seq
(.seq
(.reg [oM 8 0,
oE 9 8,
oD 10 (.mov (cI 0))])
(.block 0
(.loop
(.seq
(.keep [2, 8, 9, 10]
(.reg [oB 11 .lss (.t 10) (.t 9)]))
(.seq
(.cond (.t 11)
.skip
(.exit 0))
(.seq
(.block 1
(.seq
(.reg [oI 12 1 8 10,
oL 13 12,
oM 4 13])
(.keep [2, 4, 8, 9, 10]
(.reg [oM 14 2,
oM 15 4,
oM 16 4,
oD 17 (.un .neg (.t 16)),
oD 18 (.minmax true (.t 15) (.t 17)),
oB 19 .add (.t 14) (.t 18),
oM 2 19]))))
(.keep [2, 8, 9, 10]
(.reg [oB 20 .add (.t 10) (cI 1),
oM 10 20]))))))))
(.seq
(.keep [2]
(.reg [oM 21 2,
oM 2 21]))
.ret))))
def rd_row_Size : List RD := [.tmp 2 true none]
theorem ok_row_Size : fnOk Tryz.prog Tryz.f77 ir_row_Size rd_row_Size = true := by kernel_rfl
def S_row_Size : List AV → List Obj → Option (Prop × AV)
  | [.imm (.int .i64) w], [] => some ((True, .int .i64 (sizeW w)))
  | _, _ => none
theorem snd_row_Size : SoundS Tryz.prog 77 (RoF S_row_Size).sum := by
  refine ro_fn Tryz.func77 ok_row_Size (env_cons (s := RoF S_row_Right) snd_row_Right (env_nil _)) fun args objs p v e => ?_
  unfold S_row_Size at e
  split at e
  · rename_i w
    cases e
    refine ⟨rfl, fun hw ho hp => ?_⟩
    change List Int at w
    repeat' (intro t ht; first | (cases t <;> first | (cases ht; done) | ((try simp only [bn_s] at ht); (try simp only [nd_s] at ht))) | (refine castG_go ht ?_; clear ht) | (refine ht ?_ ?_ <;> clear ht) | (refine ht.1 ?_ ?_ <;> clear ht) | (refine ht ?_; clear ht))
    all_goals first
      | exact True.intro
      | (refine ⟨?_, rfl⟩; unfold sizeW; simp_all; done)
      | (intro r h1 h2; clear h1; refine h2 ⟨[2, 8, 9, 10], Nat, (fun i => i ≤ w.length), fun i => [.int .i64 (sumT absI w i), .imm (.int .i64) w, .int .i64 w.length, .int .i64 i], fun _ => [], fun i => w.length - i, ⟨0, Nat.zero_le _, rfl, rfl⟩, ?_⟩; clear h2)
    intro i hi
    have hr : rightF w = true := by assumption
    have hl := (rightF_t.1 hr).1
    have hs := sumT_abs hr i
    repeat' (intro t ht; first | (cases t <;> first | (cases ht; done) | ((try simp only [bn_s] at ht); (try simp only [nd_s] at ht))) | (refine castG_go ht ?_; clear ht) | (refine ht ?_ ?_ <;> clear ht) | (refine ht.1 ?_ ?_ <;> clear ht) | (refine ht ?_; clear ht))
    all_goals first
      | ((try simp only [nd_s, bn_s, mm_s] at *); omega)
      | (have hge : w.length ≤ i := by omega
         refine ⟨?_, rfl⟩; unfold sizeW; rw [if_pos hr, sumT_end absI hge]; done)
      | (have hlt : i < w.length := by omega
         have hk := (rightF_t.1 hr).2 _ (getD_mem' hlt 0)
         have ha := absI_le (n := w.getD i 0)
         first
           | ((try simp only [nd_s, bn_s, mm_s] at *); omega)
           | (show IntKind.i64.min ≤ sumT absI w i + absI (w.getD i 0) ∧ sumT absI w i + absI (w.getD i 0) ≤ IntKind.i64.max; (try simp only [nd_s, bn_s, mm_s] at *); omega)
           | (refine ⟨i + 1, hlt, by (try simp only [nd_s, bn_s, mm_s] at *); omega, ?_, rfl⟩
              dsimp only
              rw [sumT_step absI hlt]; rfl))
      | trace_state
  · cases e
def ir_row_Count : IR :=
(.seq
(.keep [0]
(.reg [oD 2 (.mov (cI 0))]))
(.seq
(.seq
(.reg [oM 5 0,
oC 6 116 [.t 5],
oD 7 (.un .not (.t 6))])
(.cond (.t 7)
(.seq
(.reg [oD 2 (.mov (cI 0))])
.ret)
.skip))
(.seq
(.seq
(.reg [oM 8 0,
oE 9 8,
oD 10 (.mov (cI 0))])
(.block 0
(.loop
(.seq
(.keep [2, 8, 9, 10]
(.reg [oB 11 .lss (.t 10) (.t 9)]))
(.seq
(.cond (.t 11)
.skip
(.exit 0))
(.seq
(.block 1
(.seq
(.reg [oI 12 1 8 10,
oL 13 12,
oM 4 13])
(.seq
(.reg [oM 14 4,
oB 15 .gtr (.t 14) (cI 0)])
(.cond (.t 15)
(.keep [2, 8, 9, 10]
(.reg [oM 16 2,
oB 17 .add (.t 16) (cI 1),
oM 2 17]))
.skip))))
(.keep [2, 8, 9, 10]
(.reg [oB 18 .add (.t 10) (cI 1),
oM 10 18]))))))))
(.seq
(.keep [2]
(.reg [oM 19 2,
oM 2 19]))
.ret))))
def rd_row_Count : List RD := [.tmp 2 true none]
theorem ok_row_Count : fnOk Tryz.prog Tryz.f130 ir_row_Count rd_row_Count = true := by kernel_rfl
def S_row_Count : List AV → List Obj → Option (Prop × AV)
  | [.imm (.int .i64) w], [] => some ((True, .int .i64 (countW w)))
  | _, _ => none
theorem snd_row_Count : SoundS Tryz.prog 130 (RoF S_row_Count).sum := by
  refine ro_fn Tryz.func130 ok_row_Count (env_cons (s := RoF S_row_Right) snd_row_Right (env_nil _)) fun args objs p v e => ?_
  unfold S_row_Count at e
  split at e
  · rename_i w
    cases e
    refine ⟨rfl, fun hw ho hp => ?_⟩
    change List Int at w
    repeat' (intro t ht; first | (cases t <;> first | (cases ht; done) | ((try simp only [bn_s] at ht); (try simp only [nd_s] at ht))) | (refine castG_go ht ?_; clear ht) | (refine ht ?_ ?_ <;> clear ht) | (refine ht.1 ?_ ?_ <;> clear ht) | (refine ht ?_; clear ht))
    all_goals first
      | exact True.intro
      | (refine ⟨?_, rfl⟩; unfold countW; simp_all; done)
      | (intro r h1 h2; clear h1; refine h2 ⟨[2, 8, 9, 10], Nat, (fun i => i ≤ w.length), fun i => [.int .i64 (sumT oneI w i), .imm (.int .i64) w, .int .i64 w.length, .int .i64 i], fun _ => [], fun i => w.length - i, ⟨0, Nat.zero_le _, rfl, rfl⟩, ?_⟩; clear h2)
    intro i hi
    have hr : rightF w = true := by assumption
    have hl := (rightF_t.1 hr).1
    have hs := sumT_one hr i
    repeat' (intro t ht; first | (cases t <;> first | (cases ht; done) | ((try simp only [bn_s] at ht); (try simp only [nd_s] at ht))) | (refine castG_go ht ?_; clear ht) | (refine ht ?_ ?_ <;> clear ht) | (refine ht.1 ?_ ?_ <;> clear ht) | (refine ht ?_; clear ht))
    all_goals first
      | ((try simp only [nd_s, bn_s, mm_s] at *); omega)
      | (have hge : w.length ≤ i := by omega
         refine ⟨?_, rfl⟩; unfold countW; rw [if_pos hr, sumT_end oneI hge]; done)
      | (have hlt : i < w.length := by omega
         refine ⟨i + 1, hlt, by (try simp only [nd_s, bn_s, mm_s] at *); omega, ?_, rfl⟩
         dsimp only
         rw [sumT_step oneI hlt]
         first
           | (have e : oneI (w.getD i 0) = 1 := if_pos (by assumption)
              rw [e]; rfl)
           | (have e : oneI (w.getD i 0) = 0 := if_neg (by assumption)
              rw [e, Int.add_zero]; rfl))
      | trace_state
  · cases e
theorem or_add {a b : Nat} {n : Nat} (h : b < 2 ^ n) : (a * 2 ^ n) ||| b = a * 2 ^ n + b := by
  have := Nat.shiftLeft_add_eq_or_of_lt h a
  rw [Nat.shiftLeft_eq] at this; exact this.symm
theorem or_byte {n c : Int} (hn : 0 ≤ n) (hm : n * 256 + c ≤ 18446744073709551615) (h0 : 0 ≤ c) (h1 : c ≤ 255) : bitop .or .u64 (n * 256) c = n * 256 + c := by
  obtain ⟨a, rfl⟩ := Int.eq_ofNat_of_zero_le hn
  obtain ⟨b, rfl⟩ := Int.eq_ofNat_of_zero_le h0
  have hb : b < 2 ^ 8 := by omega
  have hlt : a * 256 + b < 2 ^ 64 := by omega
  have e1 : (BitVec.ofInt 64 ((a : Int) * 256)).toNat = a * 256 := by
    have : ((a : Int) * 256) = ((a * 256 : Nat) : Int) := by simp
    rw [this, BitVec.ofInt_natCast, BitVec.toNat_ofNat]; exact Nat.mod_eq_of_lt (by omega)
  have e2 : (BitVec.ofInt 64 (b : Int)).toNat = b := by
    rw [BitVec.ofInt_natCast, BitVec.toNat_ofNat]; exact Nat.mod_eq_of_lt (by omega)
  have e3 : (BitVec.ofInt 64 ((a : Int) * 256) ||| BitVec.ofInt 64 (b : Int)).toNat = a * 256 + b := by
    rw [BitVec.toNat_or, e1, e2]; exact or_add (n := 8) hb
  show IntKind.u64.wrap ((BitVec.ofInt 64 ((a : Int) * 256) ||| BitVec.ofInt 64 (b : Int)).toNat : Int) = _
  rw [e3, wrap_id ⟨by rw [min_u64]; omega, by rw [max_u64]; omega⟩]
  simp
def numL (b : List Int) : Int := b.foldl (fun n c => n * 256 + c) 0
theorem numL_snoc (l : List Int) (c : Int) : numL (l ++ [c]) = numL l * 256 + c := by simp [numL]
theorem numA_le : ∀ (l : List Int) (a : Int), (∀ x ∈ l, 0 ≤ x ∧ x ≤ 255) → 0 ≤ a → 0 ≤ l.foldl (fun n c => n * 256 + c) a ∧ l.foldl (fun n c => n * 256 + c) a < (a + 1) * 256 ^ l.length
  | [], a, _, ha => by simp; omega
  | c :: l, a, h, ha => by
    have hc := h c (by simp)
    have ih := numA_le l (a * 256 + c) (fun x hx => h x (by simp [hx])) (by omega)
    rw [List.foldl_cons, List.length_cons, Int.pow_succ, Int.mul_comm (256 ^ l.length) 256, ← Int.mul_assoc]
    have hp : (0 : Int) ≤ 256 ^ l.length := Int.le_of_lt (Int.pow_pos (by decide))
    have hm := Int.mul_le_mul_of_nonneg_right (show a * 256 + c + 1 ≤ (a + 1) * 256 by omega) hp
    omega
theorem numL_le (l : List Int) (h : ∀ x ∈ l, 0 ≤ x ∧ x ≤ 255) : 0 ≤ numL l ∧ numL l < 256 ^ l.length := by
  have := numA_le l 0 h (Int.le_refl _)
  rwa [Int.zero_add, Int.one_mul] at this
def numT (b : List Int) (i : Nat) : Int := numL (b.take i)
theorem numT_step {b : List Int} {i : Nat} (h : i < b.length) : numT b (i + 1) = numT b i * 256 + b.getD i 0 := by
  unfold numT
  rw [List.take_succ_eq_append_getElem h, numL_snoc, List.getD_eq_getElem?_getD, List.getElem?_eq_getElem h]; rfl
theorem numT_end {b : List Int} {i : Nat} (h : b.length ≤ i) : numT b i = numL b := by unfold numT; rw [List.take_of_length_le h]
theorem pow256' : ∀ k ≤ 7, (256 : Int) ^ k ≤ 72057594037927936 := by decide
theorem numT_le {b : List Int} (hb : ∀ x ∈ b, 0 ≤ x ∧ x ≤ 255) (i : Nat) (hi : i ≤ 7) : 0 ≤ numT b i ∧ numT b i < 72057594037927936 := by
  have h1 := numL_le (b.take i) fun x hx => hb x (List.mem_of_mem_take hx)
  have h2 : (256 : Int) ^ (b.take i).length ≤ 72057594037927936 := pow256' _ (by rw [List.length_take]; omega)
  unfold numT; omega
def ir_row_number : IR :=
(.seq
(.keep [0]
(.reg [oD 2 (.mov (.c (.int .u64 0)))]))
(.seq
(.seq
(.reg [oM 5 0,
oE 6 5,
oD 7 (.mov (cI 0))])
(.block 0
(.loop
(.seq
(.keep [2, 5, 6, 7]
(.reg [oB 8 .lss (.t 7) (.t 6)]))
(.seq
(.cond (.t 8)
.skip
(.exit 0))
(.seq
(.block 1
(.seq
(.reg [oI 9 1 5 7,
oL 10 9,
oM 4 10])
(.keep [2, 4, 5, 6, 7]
(.reg [oM 11 2,
oB 12 .shl (.t 11) (.c (.int .u64 8)),
oM 13 4,
oD 14 (.conv .u64 (.t 13)),
oB 15 .or (.t 12) (.t 14),
oM 2 15]))))
(.keep [2, 5, 6, 7]
(.reg [oB 16 .add (.t 7) (cI 1),
oM 7 16]))))))))
(.seq
(.keep [2]
(.reg [oM 17 2,
oM 2 17]))
.ret)))
def rd_row_number : List RD := [.tmp 2 true none]
theorem ok_row_number : fnOk Tryz.prog Tryz.f138 ir_row_number rd_row_number = true := by kernel_rfl
def S_row_number : List AV → List Obj → Option (Prop × AV)
  | [.imm (.int .u8) b], [] => some ((b.length ≤ 8, .int .u64 (numL b)))
  | _, _ => none
theorem snd_row_number : SoundS Tryz.prog 138 (RoF S_row_number).sum := by
  refine ro_fn Tryz.func138 ok_row_number (env_nil _) fun args objs p v e => ?_
  unfold S_row_number at e
  split at e
  · rename_i b
    cases e
    refine ⟨rfl, fun hw ho hp => ?_⟩
    change List Int at b
    have hb : ∀ x ∈ (b : List Int), (0 : Int) ≤ x ∧ x ≤ 255 := fun x hx => (hw (.imm (.int .u8) b) (by simp)).1 x hx
    repeat' (intro t ht; first | (cases t <;> first | (cases ht; done) | ((try simp only [bn_s] at ht); (try simp only [nd_s] at ht))) | (refine castG_go ht ?_; clear ht) | (refine ht ?_ ?_ <;> clear ht) | (refine ht.1 ?_ ?_ <;> clear ht) | (refine ht ?_; clear ht))
    all_goals first
      | (intro r h1 h2; clear h1; refine h2 ⟨[2, 5, 6, 7], Nat, (fun i => i ≤ b.length), fun i => [.int .u64 (numT b i), .imm (.int .u8) b, .int .i64 b.length, .int .i64 i], fun _ => [], fun i => b.length - i, ⟨0, Nat.zero_le _, rfl, rfl⟩, ?_⟩; clear h2)
    intro i hi
    repeat' (intro t ht; first | (cases t <;> first | (cases ht; done) | ((try simp only [bn_s] at ht); (try simp only [nd_s] at ht))) | (refine castG_go ht ?_; clear ht) | (refine ht ?_ ?_ <;> clear ht) | (refine ht.1 ?_ ?_ <;> clear ht) | (refine ht ?_; clear ht))
    all_goals first
      | ((try simp only [nd_s, bn_s, mm_s] at *); omega)
      | (have hge : b.length ≤ i := by omega
         refine ⟨?_, rfl⟩; rw [numT_end hge]; done)
      | exact (by decide)
      | (have hlt : i < b.length := by omega
         have hk := hb _ (getD_mem' (α := Int) hlt 0)
         have hn := numT_le hb i (by omega)
         first
           | (show IntKind.u64.min ≤ numT b i * 256 ∧ numT b i * 256 ≤ IntKind.u64.max; (try simp only [nd_s, bn_s, mm_s] at *); omega)
           | ((try simp only [nd_s, bn_s, mm_s] at *); omega)
           | (refine ⟨i + 1, hlt, by (try simp only [nd_s, bn_s, mm_s] at *); omega, ?_, rfl⟩
              dsimp only
              rw [numT_step hlt]
              have e : bitop .or .u64 (numT b i * 256) (b.getD i 0) = numT b i * 256 + b.getD i 0 := or_byte hn.1 (by omega) hk.1 hk.2
              rw [← e]; rfl))
      | trace_state
  · cases e
def zeroL (b : List Int) : Bool := b.all fun c => decide (c = 0)
def ir_row_zero : IR :=
(.seq
(.keep [0]
(.reg [oD 2 (.mov cF)]))
(.seq
(.seq
(.reg [oM 5 0,
oE 6 5,
oD 7 (.mov (cI 0))])
(.block 0
(.loop
(.seq
(.keep [5, 6, 7]
(.reg [oB 8 .lss (.t 7) (.t 6)]))
(.seq
(.cond (.t 8)
.skip
(.exit 0))
(.seq
(.block 1
(.seq
(.reg [oI 9 1 5 7,
oL 10 9,
oM 4 10])
(.seq
(.reg [oM 11 4,
oB 12 .neq (.t 11) (.c (.int .u8 0))])
(.cond (.t 12)
(.seq
(.keep []
(.reg [oD 2 (.mov cF)]))
.ret)
.skip))))
(.keep [5, 6, 7]
(.reg [oB 13 .add (.t 7) (cI 1),
oM 7 13]))))))))
(.seq
(.keep []
(.reg [oD 2 (.mov cT)]))
.ret)))
def rd_row_zero : List RD := [.tmp 2 true none]
theorem ok_row_zero : fnOk Tryz.prog Tryz.f139 ir_row_zero rd_row_zero = true := by kernel_rfl
def S_row_zero : List AV → List Obj → Option (Prop × AV)
  | [.imm (.int .u8) b], [] => some ((True, .bool (zeroL b)))
  | _, _ => none
theorem snd_row_zero : SoundS Tryz.prog 139 (RoF S_row_zero).sum := by
  refine ro_fn Tryz.func139 ok_row_zero (env_nil _) fun args objs p v e => ?_
  unfold S_row_zero at e
  split at e
  · rename_i b
    cases e
    refine ⟨rfl, fun hw ho hp => ?_⟩
    change List Int at b
    have hl : b.length ≤ maxLen := (hw (.imm (.int .u8) b) (by simp)).2
    unfold maxLen at hl
    repeat' (intro t ht; first | (cases t <;> first | (cases ht; done) | ((try simp only [bn_s] at ht); (try simp only [nd_s] at ht))) | (refine castG_go ht ?_; clear ht) | (refine ht ?_ ?_ <;> clear ht) | (refine ht.1 ?_ ?_ <;> clear ht) | (refine ht ?_; clear ht))
    all_goals first
      | (intro r h1 h2; clear h1; refine h2 ⟨[5, 6, 7], Nat, (fun i => i ≤ b.length ∧ zeroL b = zeroL (b.drop i)), fun i => [.imm (.int .u8) b, .int .i64 b.length, .int .i64 i], fun _ => [], fun i => b.length - i, ⟨0, ⟨Nat.zero_le _, rfl⟩, rfl, rfl⟩, ?_⟩; clear h2)
    rintro i ⟨hi, he⟩
    repeat' (intro t ht; first | (cases t <;> first | (cases ht; done) | ((try simp only [bn_s] at ht); (try simp only [nd_s] at ht))) | (refine castG_go ht ?_; clear ht) | (refine ht ?_ ?_ <;> clear ht) | (refine ht.1 ?_ ?_ <;> clear ht) | (refine ht ?_; clear ht))
    all_goals first
      | ((try simp only [nd_s, bn_s, mm_s] at *); omega)
      | (have hge : b.length ≤ i := by omega
         refine ⟨?_, rfl⟩; rw [he, List.drop_of_length_le hge]; rfl)
      | (have hlt : i < b.length := by omega
         rw [drop_step hlt 0] at he
         unfold zeroL at he
         rw [List.all_cons] at he
         first
           | (have hk : decide (b.getD i 0 = 0) = false := decide_eq_false (by assumption)
              refine ⟨?_, rfl⟩; unfold zeroL; rw [he, hk]; rfl)
           | (have hk : decide (b.getD i 0 = 0) = true := decide_eq_true (by assumption)
              rw [hk, Bool.true_and] at he
              exact ⟨i + 1, ⟨hlt, he⟩, by (try simp only [nd_s, bn_s, mm_s] at *); omega, rfl, rfl⟩))
      | trace_state
  · cases e
theorem wrap_u8 (x : Int) : IntKind.u8.wrap x = x % 256 := by simp [IntKind.wrap, IntKind.signed, IntKind.bits]
def byteAt (n w j : Int) : Int := (n.fdiv (2 ^ (min (8 * (w - 1 - j)).toNat 64))) % 256
def bytesT (n w : Int) (i : Nat) : List Int := (List.range i).map fun j : Nat => byteAt n w j
def bytesN (n w : Int) : List Int := bytesT n w w.toNat
theorem bytesT_step (n w : Int) (i : Nat) : bytesT n w (i + 1) = bytesT n w i ++ [byteAt n w i] := by
  unfold bytesT; rw [List.range_succ, List.map_append]; rfl
theorem bytesT_len (n w : Int) (i : Nat) : (bytesT n w i).length = i := by unfold bytesT; simp
theorem bytesN_len {n w : Int} (h : 0 ≤ w) : ((bytesN n w).length : Int) = w := by unfold bytesN; rw [bytesT_len]; omega
def ir_row_put : IR :=
(.seq
(.keep [0, 1, 2]
(.reg [oD 6 (.mov (.c (.imm (.int .u8) [])))]))
(.seq
(.seq
(.reg [oM 8 2,
oD 9 (.mov (cI 0))])
(.block 0
(.loop
(.seq
(.keep [0, 1, 2, 8, 9]
(.reg [oB 10 .lss (.t 9) (.t 8)]))
(.seq
(.cond (.t 10)
.skip
(.exit 0))
(.seq
(.block 1
(.seq
(.reg [oM 11 9,
oM 7 11])
(.keep [0, 1, 2, 7, 8, 9]
(.reg [oM 12 0,
oM 13 1,
oM 14 2,
oB 15 .sub (.t 14) (cI 1),
oM 16 7,
oB 17 .sub (.t 15) (.t 16),
oB 18 .mul (cI 8) (.t 17),
oB 19 .shr (.t 13) (.t 18),
oD 20 (.conv .u8 (.t 19)),
oD 21 (.sliceAll (.int .u8) 1 [(0, 1, (.t 20))]),
oD 22 (.append (.int .u8) 1 (.t 12) (.t 21)),
oM 0 22]))))
(.keep [0, 1, 2, 8, 9]
(.reg [oB 23 .add (.t 9) (cI 1),
oM 9 23]))))))))
(.seq
(.keep [0]
(.reg [oM 24 0,
oM 6 24]))
.ret)))
def rd_row_put : List RD := [.tmp 6 false none]
theorem ok_row_put : fnOk Tryz.prog Tryz.f131 ir_row_put rd_row_put = true := by kernel_rfl
def S_row_put : List AV → List Obj → Option (Prop × AV × List Obj)
  | [.own 0, .int .u64 n, .int .i64 w], [.row false (.int .u8) l] => some ((1 ≤ w ∧ w ≤ 64 ∧ l.length ≤ 100000000, .own 1, [.dead, .row false (.int .u8) (l ++ bytesN n w)]))
  | _, _ => none
theorem snd_row_put : SoundS Tryz.prog 131 (RwF S_row_put).sum := by
  refine rw_fn Tryz.func131 ok_row_put (env_nil _) fun args objs p v o e => ?_
  unfold S_row_put at e
  split at e
  · rename_i n w l
    cases e
    refine ⟨rfl, fun hw ho hp => ?_⟩
    change List Int at l
    repeat' (intro t ht; first | (cases t <;> first | (cases ht; done) | ((try simp only [bn_s] at ht); (try simp only [nd_s] at ht))) | (refine castG_go ht ?_; clear ht) | (refine ht ?_ ?_ <;> clear ht) | (refine ht.1 ?_ ?_ <;> clear ht) | (refine ht ?_; clear ht))
    all_goals first
      | (intro r h1 h2; clear h1; refine h2 ⟨[0, 1, 2, 8, 9], Nat, (fun i => (i : Int) ≤ w), fun i => [match i with | 0 => .own 0 | _ + 1 => .own 1, .int .u64 n, .int .i64 w, .int .i64 w, .int .i64 i], fun i => match i with | 0 => [.row false (.int .u8) l] | i + 1 => [.dead, .row false (.int .u8) (l ++ bytesT n w (i + 1))], fun i => w.toNat - i, ⟨0, by omega, rfl, rfl⟩, ?_⟩; clear h2)
    rintro (_ | i) hi
    all_goals repeat' (intro t ht; first | (cases t <;> first | (cases ht; done) | ((try simp only [bn_s] at ht); (try simp only [nd_s] at ht))) | (refine castG_go ht ?_; clear ht) | (refine ht ?_ ?_ <;> clear ht) | (refine ht.1 (by simp only [mm_s]; omega) ?_; clear ht) | (refine ht.2 ?_; clear ht) | (refine ht ?_; clear ht))
    all_goals first
      | (exfalso; omega)
      | omega
      | (simp only [cast_rfl, List.length_append, List.length_cons, List.length_nil, bytesT_len]; omega)
      | (refine ⟨1, by omega, by dsimp only; omega, rfl, ?_⟩
         show [Obj.dead, Obj.row false (.int .u8) (l ++ [IntKind.u8.wrap (n.fdiv (2 ^ min (8 * (w - 1 - ((0 : Nat) : Int))).toNat 64))])] = [Obj.dead, Obj.row false (.int .u8) (l ++ bytesT n w (0 + 1))]
         rw [bytesT_step, wrap_u8]; rfl)
      | (have e : w.toNat = i + 1 := by omega
         refine ⟨rfl, ?_⟩; unfold bytesN; rw [e])
      | (refine ⟨i + 1 + 1, by omega, by dsimp only; omega, rfl, ?_⟩
         show [Obj.dead, Obj.row false (.int .u8) ((l ++ bytesT n w (i + 1)) ++ [IntKind.u8.wrap (n.fdiv (2 ^ min (8 * (w - 1 - ((i + 1 : Nat) : Int))).toNat 64))])] = [Obj.dead, Obj.row false (.int .u8) (l ++ bytesT n w (i + 1 + 1))]
         rw [bytesT_step n w (i + 1), wrap_u8, List.append_assoc]; rfl)
      | trace_state
  · cases e
end Go.Eng
namespace Go.Eng
open Go.Proofs
set_option linter.unusedVariables false
set_option linter.unusedSimpArgs false
set_option maxRecDepth 100000
set_option maxHeartbeats 1000000
def putA : List Int → List Int → List Int → Option (List Int)
  | [], _, b => some b
  | n :: r, xs, b => if n < 0 then putA r xs (b ++ bytesN 0 (0 - n)) else match xs with
    | [] => none
    | x :: ys => if n < 8 ∧ x.fdiv (2 ^ (min (8 * n).toNat 64)) ≠ 0 then none else putA r ys (b ++ bytesN x n)
def putF (w xs : List Int) : Option (List Int) := if rightF w = true ∧ countW w = xs.length then putA w xs [] else none
def putB (w xs : List Int) : List Int := (putF w xs).getD []
def putK (w xs : List Int) : Bool := (putF w xs).isSome
theorem sumT_mono {w : List Int} (i : Nat) : ∀ k, sumT oneI w i ≤ sumT oneI w (i + k)
  | 0 => Int.le_refl _
  | k + 1 => by
    have ih := sumT_mono (w := w) i k
    by_cases h : i + k < w.length
    · rw [show i + (k + 1) = (i + k) + 1 by omega, sumT_step oneI h]
      have : 0 ≤ oneI (w.getD (i + k) 0) := by unfold oneI; split <;> omega
      omega
    · rw [sumT_end oneI (show w.length ≤ i + (k + 1) by omega)]
      rwa [sumT_end oneI (show w.length ≤ i + k by omega)] at ih
theorem sumT_lt {w : List Int} {i : Nat} (h : i < w.length) (hp : 0 < w.getD i 0) : sumT oneI w i + 1 ≤ (w.map oneI).sum := by
  have h1 := sumT_mono (w := w) (i + 1) w.length
  rw [sumT_step oneI h, sumT_end oneI (show w.length ≤ i + 1 + w.length by omega)] at h1
  have : oneI (w.getD i 0) = 1 := if_pos hp
  omega
theorem putA_neg {w xs b : List Int} {i k : Nat} (h : i < w.length) (hn : w.getD i 0 < 0) : putA (w.drop i) (xs.drop k) b = putA (w.drop (i + 1)) (xs.drop k) (b ++ bytesN 0 (0 - w.getD i 0)) := by
  rw [drop_step h 0]; exact if_pos hn
theorem putA_none {w xs b : List Int} {i k : Nat} (h : i < w.length) (hn : ¬ w.getD i 0 < 0) (h2 : k < xs.length) (h8 : w.getD i 0 < 8) (hx : ¬ (xs.getD k 0).fdiv (2 ^ (min (8 * w.getD i 0).toNat 64)) = 0) : putA (w.drop i) (xs.drop k) b = none := by
  rw [drop_step h 0, drop_step h2 0]
  show (if w.getD i 0 < 0 then _ else _) = _
  rw [if_neg hn]
  exact if_pos ⟨h8, hx⟩
theorem putA_some {w xs b : List Int} {i k : Nat} (h : i < w.length) (hn : ¬ w.getD i 0 < 0) (h2 : k < xs.length) (h8 : ¬ (w.getD i 0 < 8 ∧ (xs.getD k 0).fdiv (2 ^ (min (8 * w.getD i 0).toNat 64)) ≠ 0)) : putA (w.drop i) (xs.drop k) b = putA (w.drop (i + 1)) (xs.drop (k + 1)) (b ++ bytesN (xs.getD k 0) (w.getD i 0)) := by
  rw [drop_step h 0, drop_step h2 0]
  show (if w.getD i 0 < 0 then _ else _) = _
  rw [if_neg hn]
  exact if_neg h8
theorem getD_drop0 {α : Type} {l : List α} {k : Nat} {d : α} : (l.drop k).getD 0 d = l.getD k d := by
  rw [List.getD_eq_getElem?_getD, List.getElem?_drop, Nat.add_zero, ← List.getD_eq_getElem?_getD]
def ir_row_Put : IR :=
(.seq
(.keep [0, 1]
(.reg [oD 4 (.mov (.c (.imm (.int .u8) []))),
oD 5 (.mov cF)]))
(.seq
(.seq
(.keep [0, 1]
(.reg [oM 10 0,
oC 11 116 [.t 10],
oD 12 (.un .not (.t 11)),
oM 13 12,
oF 13 14 (.mov (.t 0)),
oF 13 15 (.call false (.f 130) [(.t 14)]),
oF 13 16 (.mov (.t 1)),
oF 13 17 (.len (.t 16)),
oF 13 18 (.bin .neq (.t 15) (.t 17)),
oP 19 13 cT (.t 18)]))
(.cond (.t 19)
(.seq
(.keep []
(.reg [oD 4 (.mov (.c (.imm (.int .u8) []))),
oD 5 (.mov cF)]))
.ret)
.skip))
(.seq
(.keep [0, 1]
(.reg [oM 20 0,
oC 21 77 [.t 20],
oD 22 (.mkrow (.int .u8) 1 (0 : Int) (cI 0) (.t 21)),
oM 6 22]))
(.seq
(.seq
(.reg [oM 23 0,
oE 24 23,
oD 25 (.mov (cI 0))])
(.block 0
(.loop
(.seq
(.keep [1, 6, 23, 24, 25]
(.reg [oB 26 .lss (.t 25) (.t 24)]))
(.seq
(.cond (.t 26)
.skip
(.exit 0))
(.seq
(.block 1
(.seq
(.reg [oI 27 1 23 25,
oL 28 27,
oM 8 28])
(.seq
(.seq
(.reg [oM 29 8,
oB 30 .lss (.t 29) (cI 0)])
(.cond (.t 30)
(.seq
(.keep [1, 6, 8, 23, 24, 25]
(.reg [oM 31 6,
oM 32 8,
oD 33 (.un .neg (.t 32)),
oD 34 (.call true (.f 131) [.t 31, (.c (.int .u64 0)), .t 33]),
oM 6 34]))
(.exit 1))
.skip))
(.seq
(.keep [1, 6, 8, 23, 24, 25]
(.reg [oM 35 1,
oD 36 (.indexSl 1 (.t 35) (cI 0)),
oL 37 36,
oM 9 37]))
(.seq
(.seq
(.keep [1, 6, 8, 9, 23, 24, 25]
(.reg [oM 38 8,
oB 39 .lss (.t 38) (cI 8),
oM 40 39,
oT 40 41 (.mov (.t 9)),
oT 40 42 (.mov (.t 8)),
oT 40 43 (.bin .mul (cI 8) (.t 42)),
oT 40 44 (.bin .shr (.t 41) (.t 43)),
oT 40 45 (.bin .neq (.t 44) (.c (.int .u64 0))),
oP 46 40 (.t 45) cF]))
(.cond (.t 46)
(.seq
(.keep []
(.reg [oD 4 (.mov (.c (.imm (.int .u8) []))),
oD 5 (.mov cF)]))
.ret)
.skip))
(.keep [1, 6, 8, 9, 23, 24, 25]
(.regD [(oM 47 6, []),
(oM 48 9, [0]),
(oM 49 8, [0,0]),
(oD 50 (.call true (.f 131) [.t 47, .t 48, .t 49]), []),
(oM 51 1, [0,0,0,0]),
(oD 52 (.slice 1 (.t 51) (some (cI 1)) none none), [1,0,0,0]),
(oM 6 50, [0,0]),
(oM 1 52, [])])))))))
(.keep [1, 6, 23, 24, 25]
(.reg [oB 53 .add (.t 25) (cI 1),
oM 25 53]))))))))
(.seq
(.keep [6]
(.reg [oM 54 6,
oM 4 54,
oD 5 (.mov cT)]))
.ret)))))
def rd_row_Put : List RD := [.tmp 4 true (some (.int .u8)), .tmp 5 true none]
theorem ok_row_Put : fnOk Tryz.prog Tryz.f92 ir_row_Put rd_row_Put = true := by kernel_rfl
def S_row_Put : List AV → List Obj → Option (Prop × AV)
  | [.imm (.int .i64) w, .imm (.int .u64) xs], [] => some ((True, .tup [.imm (.int .u8) (putB w xs), .bool (putK w xs)]))
  | _, _ => none
theorem snd_row_Put : SoundS Tryz.prog 92 (RoF S_row_Put).sum := by
  refine ro_fn Tryz.func92 ok_row_Put (env_cons (s := RoF S_row_Right) snd_row_Right (env_cons (s := RoF S_row_Count) snd_row_Count (env_cons (s := RoF S_row_Size) snd_row_Size (env_cons (s := RwF S_row_put) snd_row_put (env_nil _))))) fun args objs p v e => ?_
  unfold S_row_Put at e
  split at e
  · rename_i w xs
    cases e
    refine ⟨rfl, fun hw ho hp => ?_⟩
    change List Int at w
    change List Int at xs
    have hx : xs.length ≤ maxLen := (hw (.imm (.int .u64) xs) (by simp)).2
    unfold maxLen at hx
    have hz := sizeW_le w
    repeat' (intro t ht; first | (cases t <;> first | (cases ht; done) | ((try simp only [bn_s] at ht); (try simp only [nd_s] at ht))) | (refine castG_go ht ?_; clear ht) | (refine ht ?_ ?_ <;> clear ht) | (refine ht.1 ?_ ?_ <;> clear ht) | (refine ht ?_; clear ht))
    all_goals first
      | exact True.intro
      | (intro r h1 h2; clear h1; refine h2 ⟨[1, 6, 23, 24, 25], Nat × Nat × List Int, (fun a => a.1 ≤ w.length ∧ (a.2.2.length : Int) = sumT absI w a.1 ∧ sumT oneI w a.1 = a.2.1 ∧ putA w xs [] = putA (w.drop a.1) (xs.drop a.2.1) a.2.2), fun a => [.imm (.int .u64) (xs.drop a.2.1), .own 0, .imm (.int .i64) w, .int .i64 w.length, .int .i64 a.1], fun a => [.row false (.int .u8) a.2.2], fun a => w.length - a.1, ⟨(0, 0, []), ⟨Nat.zero_le _, rfl, rfl, rfl⟩, rfl, rfl⟩, ?_⟩; clear h2)
      | ((try simp only [nd_s, bn_s, mm_s] at *); omega)
      | (have hn : ¬ (rightF w = true ∧ countW w = xs.length) := fun h => by simp_all
         refine ⟨?_, rfl⟩; unfold putB putK putF; rw [if_neg hn]; rfl)
    rintro ⟨i, k, b⟩ ⟨hi, hb, hk, he⟩
    dsimp only at hi hb hk he
    have hr : rightF w = true := by assumption
    have hc : countW w = xs.length := by assumption
    have hsum : (w.map oneI).sum = xs.length := by unfold countW at hc; rwa [if_pos hr] at hc
    have hl := (rightF_t.1 hr).1
    have hs := sumT_abs hr i
    have h1 := sumT_one hr i
    repeat' (intro t ht; first | (cases t <;> first | (cases ht; done) | ((try simp only [bn_s] at ht); (try simp only [nd_s] at ht))) | (refine castG_go ht ?_; clear ht) | (refine ht ?_ ?_ <;> clear ht) | (refine ht.1 ?_ ?_ <;> clear ht) | (refine ht ?_; clear ht))
    all_goals first
      | ((try simp only [nd_s, bn_s, mm_s] at *); omega)
      | (have hge : w.length ≤ i := by omega
         rw [List.drop_of_length_le hge] at he
         have hf : putF w xs = some b := by unfold putF; rw [if_pos ⟨hr, hc⟩, he]; rfl
         refine ⟨?_, rfl⟩; unfold putB putK; rw [hf]; rfl)
      | skip
    all_goals have hlt : i < w.length := by omega
    all_goals have hkk := (rightF_t.1 hr).2 _ (getD_mem' (α := Int) hlt 0)
    all_goals first
      | ((try simp only [nd_s, bn_s, mm_s] at *); rw [List.length_drop]; omega)
      | ((try simp only [nd_s, bn_s, mm_s] at *); omega)
      | (have hn : w.getD i 0 < 0 := by assumption
         have ha := absI_neg hn
         have h0 : oneI (w.getD i 0) = 0 := if_neg (by omega)
         have hbl := bytesN_len (n := 0) (w := 0 - w.getD i 0) (by omega)
         refine ⟨(i + 1, k, b ++ bytesN 0 (0 - w.getD i 0)), ⟨hlt, ?_, ?_, ?_⟩, by dsimp only; omega, rfl, rfl⟩
         · rw [sumT_step absI hlt, ha]; simp only [List.length_append]; omega
         · rw [sumT_step oneI hlt, h0]; dsimp only; omega
         · rw [he]; exact putA_neg hlt hn)
      | (have hn : ¬ w.getD i 0 < 0 := by assumption
         have hlt2 := sumT_lt (w := w) (i := i) hlt (by omega)
         have h2 : k < xs.length := by omega
         first
           | ((try simp only [nd_s, bn_s, mm_s] at *); rw [List.length_drop]; omega)
           | (have h8 : w.getD i 0 < 8 := by assumption
              have hx : ¬ ((xs.drop k).getD 0 0).fdiv (2 ^ (min (8 * w.getD i 0).toNat 64)) = 0 := by assumption
              rw [getD_drop0] at hx
              have hf : putF w xs = none := by unfold putF; rw [if_pos ⟨hr, hc⟩, he]; exact putA_none hlt hn h2 h8 hx
              refine ⟨?_, rfl⟩; unfold putB putK; rw [hf]; rfl)
           | (have h8 : ¬ (w.getD i 0 < 8 ∧ (xs.getD k 0).fdiv (2 ^ (min (8 * w.getD i 0).toNat 64)) ≠ 0) := fun h => by
                first
                  | (exact absurd h.1 (by assumption))
                  | (have hx : ((xs.drop k).getD 0 0).fdiv (2 ^ (min (8 * w.getD i 0).toNat 64)) = 0 := by assumption
                     rw [getD_drop0] at hx
                     exact h.2 hx)
              have ha := absI_nn hn
              have h0 : oneI (w.getD i 0) = 1 := if_pos (by omega)
              have hbl := bytesN_len (n := xs.getD k 0) (w := w.getD i 0) (by omega)
              refine ⟨(i + 1, k + 1, b ++ bytesN (xs.getD k 0) (w.getD i 0)), ⟨hlt, ?_, ?_, ?_⟩, by dsimp only; omega, ?_, ?_⟩
              · rw [sumT_step absI hlt, ha]; simp only [List.length_append]; omega
              · rw [sumT_step oneI hlt, h0]; dsimp only; omega
              · rw [he]; exact putA_some hlt hn h2 h8
              · dsimp only; rw [← List.drop_drop]; rfl
              · dsimp only; rw [← getD_drop0 (l := xs) (k := k)]; rfl))
      | trace_state
  · cases e
def getA : List Int → List Int → List Int → List Int × Int
  | [], _, o => (o, 0)
  | n :: r, b, o => if (b.length : Int) < absI n then ([], 1) else if 0 < n then getA r (b.drop (absI n).toNat) (o ++ [numL (b.take (absI n).toNat)]) else if zeroL (b.take (absI n).toNat) = true then getA r (b.drop (absI n).toNat) o else ([], 2)
def getF (w b : List Int) : List Int × Int := if rightF w = true then getA w b [] else ([], 2)
def getL (w b : List Int) : List Int := (getF w b).1
def getK (w b : List Int) : Int := (getF w b).2
theorem getA_short {w b o : List Int} {i : Nat} (h : i < w.length) (h1 : (b.length : Int) < absI (w.getD i 0)) : getA (w.drop i) b o = ([], 1) := by
  rw [drop_step h 0]; exact if_pos h1
theorem getA_num {w b o : List Int} {i : Nat} (h : i < w.length) (h1 : ¬ (b.length : Int) < absI (w.getD i 0)) (h2 : 0 < w.getD i 0) : getA (w.drop i) b o = getA (w.drop (i + 1)) (b.drop (absI (w.getD i 0)).toNat) (o ++ [numL (b.take (absI (w.getD i 0)).toNat)]) := by
  rw [drop_step h 0]
  show (if (b.length : Int) < absI (w.getD i 0) then _ else _) = _
  rw [if_neg h1]; exact if_pos h2
theorem getA_zero {w b o : List Int} {i : Nat} (h : i < w.length) (h1 : ¬ (b.length : Int) < absI (w.getD i 0)) (h2 : ¬ 0 < w.getD i 0) (h3 : zeroL (b.take (absI (w.getD i 0)).toNat) = true) : getA (w.drop i) b o = getA (w.drop (i + 1)) (b.drop (absI (w.getD i 0)).toNat) o := by
  rw [drop_step h 0]
  show (if (b.length : Int) < absI (w.getD i 0) then _ else _) = _
  rw [if_neg h1]
  show (if 0 < w.getD i 0 then _ else _) = _
  rw [if_neg h2]; exact if_pos h3
theorem getA_odd {w b o : List Int} {i : Nat} (h : i < w.length) (h1 : ¬ (b.length : Int) < absI (w.getD i 0)) (h2 : ¬ 0 < w.getD i 0) (h3 : zeroL (b.take (absI (w.getD i 0)).toNat) = false) : getA (w.drop i) b o = ([], 2) := by
  rw [drop_step h 0]
  show (if (b.length : Int) < absI (w.getD i 0) then _ else _) = _
  rw [if_neg h1]
  show (if 0 < w.getD i 0 then _ else _) = _
  rw [if_neg h2]; exact if_neg (by rw [h3]; simp)
def ir_row_Get : IR :=
(.seq
(.keep [0, 1]
(.reg [oD 4 (.nilrow (.int .u64)),
oD 5 (.mov (cI 0))]))
(.seq
(.seq
(.reg [oM 10 0,
oC 11 116 [.t 10],
oD 12 (.un .not (.t 11))])
(.cond (.t 12)
(.seq
(.reg [oD 4 (.nilrow (.int .u64)),
oD 5 (.mov (cI 2))])
.ret)
.skip))
(.seq
(.keep [0, 1]
(.reg [oD 6 (.nilrow (.int .u64))]))
(.seq
(.seq
(.reg [oM 13 0,
oE 14 13,
oD 15 (.mov (cI 0))])
(.block 0
(.loop
(.seq
(.keep [1, 6, 13, 14, 15]
(.reg [oB 16 .lss (.t 15) (.t 14)]))
(.seq
(.cond (.t 16)
.skip
(.exit 0))
(.seq
(.block 1
(.seq
(.reg [oI 17 1 13 15,
oL 18 17,
oM 8 18])
(.seq
(.keep [1, 6, 8, 13, 14, 15]
(.reg [oM 19 8,
oM 20 8,
oD 21 (.un .neg (.t 20)),
oD 22 (.minmax true (.t 19) (.t 21)),
oM 9 22]))
(.seq
(.block 2
(.seq
(.keep [1, 6, 8, 9, 13, 14, 15]
(.reg [oM 24 1,
oE 25 24,
oM 26 9,
oB 27 .lss (.t 25) (.t 26),
oM 23 27]))
(.cond (.t 23)
(.seq
(.reg [oD 4 (.nilrow (.int .u64)),
oD 5 (.mov (cI 1))])
.ret)
(.seq
(.reg [oM 29 8,
oB 30 .gtr (.t 29) (cI 0),
oM 28 30])
(.cond (.t 28)
(.keep [1, 6, 9, 13, 14, 15]
(.reg [oM 31 6,
oM 32 1,
oM 33 9,
oD 34 (.slice 1 (.t 32) none (some (.t 33)) none),
oC 35 138 [.t 34],
oD 36 (.sliceAll (.int .u64) 1 [(0, 1, (.t 35))]),
oD 37 (.append (.int .u64) 8 (.t 31) (.t 36)),
oM 6 37]))
(.seq
(.keep [1, 6, 9, 13, 14, 15]
(.reg [oM 39 1,
oM 40 9,
oD 41 (.slice 1 (.t 39) none (some (.t 40)) none),
oC 42 139 [.t 41],
oD 43 (.un .not (.t 42)),
oM 38 43]))
(.cond (.t 38)
(.seq
(.keep []
(.reg [oD 4 (.nilrow (.int .u64)),
oD 5 (.mov (cI 2))]))
.ret)
.skip)))))))
(.keep [1, 6, 9, 13, 14, 15]
(.reg [oM 44 1,
oM 45 9,
oD 46 (.slice 1 (.t 44) (some (.t 45)) none none),
oM 1 46]))))))
(.keep [1, 6, 13, 14, 15]
(.reg [oB 47 .add (.t 15) (cI 1),
oM 15 47]))))))))
(.seq
(.keep [6]
(.reg [oM 48 6,
oM 4 48,
oD 5 (.mov (cI 0))]))
.ret)))))
def rd_row_Get : List RD := [.tmp 4 true (some (.int .u64)), .tmp 5 true none]
theorem ok_row_Get : fnOk Tryz.prog Tryz.f117 ir_row_Get rd_row_Get = true := by kernel_rfl
def S_row_Get : List AV → List Obj → Option (Prop × AV)
  | [.imm (.int .i64) w, .imm (.int .u8) b], [] => some ((True, .tup [.imm (.int .u64) (getL w b), .int .i64 (getK w b)]))
  | _, _ => none
theorem snd_row_Get : SoundS Tryz.prog 117 (RoF S_row_Get).sum := by
  refine ro_fn Tryz.func117 ok_row_Get (env_cons (s := RoF S_row_Right) snd_row_Right (env_cons (s := RoF S_row_number) snd_row_number (env_cons (s := RoF S_row_zero) snd_row_zero (env_nil _)))) fun args objs p v e => ?_
  unfold S_row_Get at e
  split at e
  · rename_i w b
    cases e
    refine ⟨rfl, fun hw ho hp => ?_⟩
    change List Int at w
    change List Int at b
    have hb : b.length ≤ maxLen := (hw (.imm (.int .u8) b) (by simp)).2
    unfold maxLen at hb
    repeat' (intro t ht; first | (cases t <;> first | (cases ht; done) | ((try simp only [bn_s] at ht); (try simp only [nd_s] at ht))) | (refine castG_go ht ?_; clear ht) | (refine ht ?_ ?_ <;> clear ht) | (refine ht.1 ?_ ?_ <;> clear ht) | (refine ht ?_; clear ht))
    all_goals first
      | exact True.intro
      | (intro r h1 h2; clear h1; refine h2 ⟨[1, 6, 13, 14, 15], Nat × List Int × List Int, (fun a => a.1 ≤ w.length ∧ a.2.1.length ≤ b.length ∧ a.2.2.length ≤ a.1 ∧ getA w b [] = getA (w.drop a.1) a.2.1 a.2.2), fun a => [.imm (.int .u8) a.2.1, .own 0, .imm (.int .i64) w, .int .i64 w.length, .int .i64 a.1], fun a => [.row false (.int .u64) a.2.2], fun a => w.length - a.1, ⟨(0, b, []), ⟨Nat.zero_le _, Nat.le_refl _, Nat.zero_le _, rfl⟩, rfl, rfl⟩, ?_⟩; clear h2)
      | (have hr : rightF w = false := by assumption
         have hf : getF w b = ([], 2) := by unfold getF; rw [hr]; rfl
         refine ⟨?_, rfl⟩; unfold getL getK; rw [hf])
    rintro ⟨i, c, o⟩ ⟨hi, hc, ho, he⟩
    dsimp only at hi hc ho he
    have hr : rightF w = true := by assumption
    have hl := (rightF_t.1 hr).1
    repeat' (intro t ht; first | (cases t <;> first | (cases ht; done) | ((try simp only [bn_s] at ht); (try simp only [nd_s] at ht))) | (refine castG_go ht ?_; clear ht) | (refine ht ?_ ?_ <;> clear ht) | (refine ht.1 ?_ ?_ <;> clear ht) | (refine ht ?_; clear ht))
    all_goals first
      | ((try simp only [nd_s, bn_s, mm_s] at *); omega)
      | (have hge : w.length ≤ i := by omega
         rw [List.drop_of_length_le hge] at he
         have hf : getF w b = (o, 0) := by unfold getF; rw [if_pos hr, he]; rfl
         refine ⟨?_, rfl⟩; unfold getL getK; rw [hf]; done)
      | skip
    all_goals have hlt : i < w.length := by omega
    all_goals have hkk := (rightF_t.1 hr).2 _ (getD_mem' (α := Int) hlt 0)
    all_goals have ha := absI_le (n := w.getD i 0)
    all_goals have hA : (if 0 - w.getD i 0 > w.getD i 0 then 0 - w.getD i 0 else w.getD i 0) = absI (w.getD i 0) := rfl
    all_goals first
      | exact True.intro
      | ((try simp only [nd_s, bn_s, mm_s] at *); omega)
      | (have h1 : (c.length : Int) < absI (w.getD i 0) := by assumption
         have hf : getF w b = ([], 1) := by unfold getF; rw [if_pos hr, he]; exact getA_short hlt h1
         refine ⟨?_, rfl⟩; unfold getL getK; rw [hf]; done)
      | (have h1 : ¬ (c.length : Int) < absI (w.getD i 0) := by assumption
         first
           | (have h2 : ¬ 0 < w.getD i 0 := by assumption
              first
                | (have h3 : zeroL (c.take (absI (w.getD i 0)).toNat) = true := by assumption
                   refine ⟨(i + 1, c.drop (absI (w.getD i 0)).toNat, o), ⟨hlt, ?_, by dsimp only; omega, ?_⟩, by dsimp only; omega, rfl, rfl⟩
                   · dsimp only; rw [List.length_drop]; omega
                   · rw [he]; exact getA_zero hlt h1 h2 h3)
                | (have h3 : zeroL (c.take (absI (w.getD i 0)).toNat) = false := by assumption
                   have hf : getF w b = ([], 2) := by unfold getF; rw [if_pos hr, he]; exact getA_odd hlt h1 h2 h3
                   refine ⟨?_, rfl⟩; unfold getL getK; rw [hf]; done))
           | (have h2 : 0 < w.getD i 0 := by assumption
              first
                | (show (c.take (absI (w.getD i 0)).toNat).length ≤ 8; rw [List.length_take]; omega)
                | (simp only [cast_rfl, List.length_append, List.length_cons, List.length_nil]; omega)
                | (refine ⟨(i + 1, c.drop (absI (w.getD i 0)).toNat, o ++ [numL (c.take (absI (w.getD i 0)).toNat)]), ⟨hlt, ?_, ?_, ?_⟩, by dsimp only; omega, rfl, rfl⟩
                   · dsimp only; rw [List.length_drop]; omega
                   · simp only [List.length_append, List.length_cons, List.length_nil]; omega
                   · rw [he]; exact getA_num hlt h1 h2)))
      | trace_state
  · cases e
theorem tkStep {α : Type} {a b : List α} {d : α} {i : Nat} (h : a.take i = b.take i) (hi : i < a.length) (hl : a.length = b.length) (e : a.getD i d = b.getD i d) : a.take (i + 1) = b.take (i + 1) := by
  have hb : i < b.length := by omega
  rw [List.getD_eq_getElem?_getD, List.getD_eq_getElem?_getD, List.getElem?_eq_getElem hi, List.getElem?_eq_getElem hb] at e
  rw [List.take_succ_eq_append_getElem hi, List.take_succ_eq_append_getElem hb, h, show a[i] = b[i] from e]
theorem tkAll {α : Type} {a b : List α} {i : Nat} (h : a.take i = b.take i) (hi : a.length ≤ i) (hl : a.length = b.length) : a = b := by
  rwa [List.take_of_length_le hi, List.take_of_length_le (by omega)] at h
theorem tkNe {α : Type} {a b : List α} {d : α} {i : Nat} (e : ¬ a.getD i d = b.getD i d) : a ≠ b := fun h => e (by rw [h])
def ir_r01_Bytes : IR :=
(.seq
(.keep [0, 1]
(.reg [oD 4 (.mov cF)]))
(.seq
(.seq
(.keep [0, 1]
(.reg [oM 6 0,
oE 7 6,
oM 8 1,
oE 9 8,
oB 10 .neq (.t 7) (.t 9)]))
(.cond (.t 10)
(.seq
(.reg [oD 4 (.mov cF)])
.ret)
.skip))
(.seq
(.seq
(.keep [0, 1]
(.reg [oD 5 (.mov (cI 0))]))
(.block 0
(.loop
(.seq
(.seq
(.keep [0, 1, 5]
(.reg [oM 11 5,
oM 12 0,
oE 13 12,
oB 14 .lss (.t 11) (.t 13)]))
(.cond (.t 14)
.skip
(.exit 0)))
(.seq
(.block 1
(.seq
(.keep [0, 1, 5]
(.regD [(oM 17 0, []),
(oM 18 5, [0]),
(oI 19 1 17 18, []),
(oL 20 19, []),
(oM 21 1, [0,0,0,0]),
(oM 22 5, [0,0,0,0,0]),
(oI 23 1 21 22, [2,0,0,0]),
(oL 24 23, [3,0,0,0]),
(oB 25 .neq (.t 20) (.t 24), [])]))
(.cond (.t 25)
(.seq
(.keep []
(.reg [oD 4 (.mov cF)]))
.ret)
.skip)))
(.keep [0, 1, 5]
(.reg [oM 15 5,
oB 16 .add (.t 15) (cI 1),
oM 5 16])))))))
(.seq
(.keep []
(.reg [oD 4 (.mov cT)]))
.ret))))
def rd_r01_Bytes : List RD := [.tmp 4 true none]
theorem ok_r01_Bytes : fnOk Tryz.prog Tryz.f12 ir_r01_Bytes rd_r01_Bytes = true := by kernel_rfl
def S_r01_Bytes : List AV → List Obj → Option (Prop × AV)
  | [.imm (.int .u8) a, .imm (.int .u8) b], [] => some ((True, .bool (decide (a = b))))
  | _, _ => none
theorem snd_r01_Bytes : SoundS Tryz.prog 12 (RoF S_r01_Bytes).sum := by
  refine ro_fn Tryz.func12 ok_r01_Bytes (env_nil _) fun args objs p v e => ?_
  unfold S_r01_Bytes at e
  split at e
  · rename_i a b
    cases e
    refine ⟨rfl, fun hw ho hp => ?_⟩
    change List Int at a
    change List Int at b
    have hl : a.length ≤ maxLen := (hw (.imm (.int .u8) a) (by simp)).2
    unfold maxLen at hl
    repeat' (intro t ht; first | (cases t <;> first | (cases ht; done) | ((try simp only [bn_s] at ht); (try simp only [nd_s] at ht))) | (refine castG_go ht ?_; clear ht) | (refine ht ?_ ?_ <;> clear ht) | (refine ht.1 ?_ ?_ <;> clear ht) | (refine ht ?_; clear ht))
    all_goals first
      | (have hne : a ≠ b := fun h => (by assumption : ¬ (a.length : Int) = b.length) (by rw [h])
         refine ⟨?_, rfl⟩; rw [decide_eq_false hne]; done)
      | (intro r h1 h2; clear h1; refine h2 ⟨[0, 1, 5], Nat, (fun i => i ≤ a.length ∧ a.take i = b.take i), fun i => [.imm (.int .u8) a, .imm (.int .u8) b, .int .i64 i], fun _ => [], fun i => a.length - i, ⟨0, ⟨Nat.zero_le _, rfl⟩, rfl, rfl⟩, ?_⟩; clear h2)
    rintro i ⟨hi, he⟩
    have hl2 : a.length = b.length := by omega
    repeat' (intro t ht; first | (cases t <;> first | (cases ht; done) | ((try simp only [bn_s] at ht); (try simp only [nd_s] at ht))) | (refine castG_go ht ?_; clear ht) | (refine ht ?_ ?_ <;> clear ht) | (refine ht.1 ?_ ?_ <;> clear ht) | (refine ht ?_; clear ht))
    all_goals first
      | ((try simp only [nd_s, bn_s, mm_s] at *); omega)
      | (have hge : a.length ≤ i := by omega
         have e := tkAll he hge hl2
         refine ⟨?_, rfl⟩; rw [decide_eq_true e]; done)
      | (have hne : a ≠ b := tkNe (d := 0) (i := i) (by assumption)
         refine ⟨?_, rfl⟩; rw [decide_eq_false hne]; done)
      | (have hlt : i < a.length := by omega
         exact ⟨i + 1, ⟨hlt, tkStep he hlt hl2 (d := 0) (by assumption)⟩, by (try simp only [nd_s, bn_s, mm_s] at *); omega, rfl, rfl⟩)
      | trace_state
  · cases e
def ir_r01_Value : IR :=
(.seq
(.keep [0]
(.reg [oD 2 (.mov (.c (.int .u64 0)))]))
(.seq
(.reg [oD 3 (.mov (.c (.int .u64 0)))])
(.seq
(.seq
(.reg [oD 4 (.mov (cI 0))])
(.block 0
(.loop
(.seq
(.seq
(.keep [0, 3, 4]
(.reg [oM 5 4,
oM 6 0,
oE 7 6,
oB 8 .lss (.t 5) (.t 7)]))
(.cond (.t 8)
.skip
(.exit 0)))
(.seq
(.block 1
(.keep [0, 3, 4]
(.reg [oM 11 3,
oB 12 .mul (.t 11) (.c (.int .u64 256)),
oM 13 0,
oM 14 4,
oI 15 1 13 14,
oL 16 15,
oD 17 (.conv .u64 (.t 16)),
oB 18 .add (.t 12) (.t 17),
oM 3 18])))
(.keep [0, 3, 4]
(.reg [oM 9 4,
oB 10 .add (.t 9) (cI 1),
oM 4 10])))))))
(.seq
(.keep [3]
(.reg [oM 19 3,
oM 2 19]))
.ret))))
def rd_r01_Value : List RD := [.tmp 2 true none]
theorem ok_r01_Value : fnOk Tryz.prog Tryz.f84 ir_r01_Value rd_r01_Value = true := by kernel_rfl
def S_r01_Value : List AV → List Obj → Option (Prop × AV)
  | [.imm (.int .u8) b], [] => some ((b.length ≤ 8, .int .u64 (numL b)))
  | _, _ => none
theorem snd_r01_Value : SoundS Tryz.prog 84 (RoF S_r01_Value).sum := by
  refine ro_fn Tryz.func84 ok_r01_Value (env_nil _) fun args objs p v e => ?_
  unfold S_r01_Value at e
  split at e
  · rename_i b
    cases e
    refine ⟨rfl, fun hw ho hp => ?_⟩
    change List Int at b
    have hb : ∀ x ∈ (b : List Int), (0 : Int) ≤ x ∧ x ≤ 255 := fun x hx => (hw (.imm (.int .u8) b) (by simp)).1 x hx
    repeat' (intro t ht; first | (cases t <;> first | (cases ht; done) | ((try simp only [bn_s] at ht); (try simp only [nd_s] at ht))) | (refine castG_go ht ?_; clear ht) | (refine ht ?_ ?_ <;> clear ht) | (refine ht.1 ?_ ?_ <;> clear ht) | (refine ht ?_; clear ht))
    all_goals first
      | (intro r h1 h2; clear h1; refine h2 ⟨[0, 3, 4], Nat, (fun i => i ≤ b.length), fun i => [.imm (.int .u8) b, .int .u64 (numT b i), .int .i64 i], fun _ => [], fun i => b.length - i, ⟨0, Nat.zero_le _, rfl, rfl⟩, ?_⟩; clear h2)
    intro i hi
    repeat' (intro t ht; first | (cases t <;> first | (cases ht; done) | ((try simp only [bn_s] at ht); (try simp only [nd_s] at ht))) | (refine castG_go ht ?_; clear ht) | (refine ht ?_ ?_ <;> clear ht) | (refine ht.1 ?_ ?_ <;> clear ht) | (refine ht ?_; clear ht))
    all_goals first
      | ((try simp only [nd_s, bn_s, mm_s] at *); omega)
      | (have hge : b.length ≤ i := by omega
         refine ⟨?_, rfl⟩; rw [numT_end hge]; done)
      | (have hlt : i < b.length := by omega
         have hk := hb _ (getD_mem' (α := Int) hlt 0)
         have hn := numT_le hb i (by omega)
         first
           | ((try simp only [nd_s, bn_s, mm_s] at *); omega)
           | (refine ⟨i + 1, hlt, by (try simp only [nd_s, bn_s, mm_s] at *); omega, ?_, rfl⟩
              dsimp only
              rw [numT_step hlt]; rfl))
      | trace_state
  · cases e
def numR (n w : Int) (i : Nat) : List Int := List.replicate (w.toNat - i) 0 ++ (bytesN n w).drop (w.toNat - i)
theorem numR_zero {n w : Int} : numR n w 0 = List.replicate w.toNat 0 := by
  unfold numR bytesN; rw [List.drop_of_length_le (by rw [bytesT_len]; omega)]; simp
theorem numR_len {n w : Int} {i : Nat} (h : i ≤ w.toNat) : (numR n w i).length = w.toNat := by
  unfold numR bytesN; rw [List.length_append, List.length_replicate, List.length_drop, bytesT_len]; omega
theorem bytesN_getD {n w : Int} {j : Nat} (h : j < w.toNat) : (bytesN n w).getD j 0 = byteAt n w j := by
  unfold bytesN bytesT
  rw [List.getD_eq_getElem?_getD, List.getElem?_map, List.getElem?_range h]; rfl
theorem numR_step {n w : Int} {i : Nat} (h : i < w.toNat) : (numR n w i).set (w.toNat - 1 - i) (byteAt n w (w.toNat - 1 - i : Nat)) = numR n w (i + 1) := by
  have h1 : w.toNat - i = (w.toNat - (i + 1)) + 1 := by omega
  have hbl : (bytesN n w).length = w.toNat := by unfold bytesN; rw [bytesT_len]
  unfold numR
  rw [h1, List.replicate_succ', List.append_assoc, List.set_append_right _ _ (by rw [List.length_replicate]; omega), List.length_replicate, show w.toNat - 1 - i - (w.toNat - (i + 1)) = 0 by omega]
  rw [drop_step (l := bytesN n w) (i := w.toNat - (i + 1)) (by omega) 0, bytesN_getD (by omega), show w.toNat - (i + 1) = w.toNat - 1 - i by omega]
  rfl
def ir_r01_Num : IR :=
(.seq
(.keep [0, 1]
(.reg [oD 4 (.mov (.c (.imm (.int .u8) [])))]))
(.seq
(.reg [oM 7 1,
oD 8 (.mkrow (.int .u8) 1 (0 : Int) (.t 7) (.t 7)),
oM 5 8])
(.seq
(.seq
(.reg [oD 6 (.mov (cI 0))])
(.block 0
(.loop
(.seq
(.seq
(.keep [0, 1, 5, 6]
(.reg [oM 9 6,
oM 10 1,
oB 11 .lss (.t 9) (.t 10)]))
(.cond (.t 11)
.skip
(.exit 0)))
(.seq
(.block 1
(.keep [0, 1, 5, 6]
(.reg [oM 14 5,
oM 15 1,
oB 16 .sub (.t 15) (cI 1),
oM 17 6,
oB 18 .sub (.t 16) (.t 17),
oM 19 0,
oM 20 6,
oB 21 .mul (cI 8) (.t 20),
oB 22 .shr (.t 19) (.t 21),
oD 23 (.conv .u8 (.t 22)),
oI 24 1 14 18,
oS 1 24 23])))
(.keep [0, 1, 5, 6]
(.reg [oM 12 6,
oB 13 .add (.t 12) (cI 1),
oM 6 13])))))))
(.seq
(.keep [5]
(.reg [oM 25 5,
oM 4 25]))
.ret))))
def rd_r01_Num : List RD := [.tmp 4 false none]
theorem ok_r01_Num : fnOk Tryz.prog Tryz.f70 ir_r01_Num rd_r01_Num = true := by kernel_rfl
def S_r01_Num : List AV → List Obj → Option (Prop × AV × List Obj)
  | [.int .u64 n, .int .i64 w], [] => some ((0 ≤ w ∧ w ≤ 100, .own 0, [.row false (.int .u8) (bytesN n w)]))
  | _, _ => none
theorem snd_r01_Num : SoundS Tryz.prog 70 (RwF S_r01_Num).sum := by
  refine rw_fn Tryz.func70 ok_r01_Num (env_nil _) fun args objs p v o e => ?_
  unfold S_r01_Num at e
  split at e
  · rename_i n w
    cases e
    refine ⟨rfl, fun hw ho hp => ?_⟩
    repeat' (intro t ht; first | (cases t <;> first | (cases ht; done) | ((try simp only [bn_s] at ht); (try simp only [nd_s] at ht))) | (refine castG_go ht ?_; clear ht) | (refine ht ?_ ?_ <;> clear ht) | (refine ht.1 ?_ ?_ <;> clear ht) | (refine ht ?_; clear ht))
    all_goals first
      | ((try simp only [nd_s, bn_s, mm_s] at *); omega)
      | (intro r h1 h2; clear h1; refine h2 ⟨[0, 1, 5, 6], Nat, (fun i => (i : Int) ≤ w), fun i => [.int .u64 n, .int .i64 w, .own 0, .int .i64 i], fun i => [.row false (.int .u8) (numR n w i)], fun i => w.toNat - i, ⟨0, hp.1, rfl, by simp only [numR_zero]⟩, ?_⟩; clear h2)
    intro i hi
    repeat' (intro t ht; first | (cases t <;> first | (cases ht; done) | ((try simp only [bn_s] at ht); (try simp only [nd_s] at ht))) | (refine castG_go ht ?_; clear ht) | (refine ht ?_ ?_ <;> clear ht) | (refine ht.1 (by simp only [mm_s]; omega) ?_; clear ht) | (refine ht.2 ?_; clear ht) | (refine ht ?_; clear ht))
    all_goals first
      | omega
      | (simp only [numR_len (show i ≤ w.toNat by omega)]; omega)
      | (have e : w.toNat - i = 0 := by omega
         refine ⟨rfl, ?_⟩; unfold numR; rw [e]; rfl)
      | (have hlt : i < w.toNat := by omega
         refine ⟨i + 1, by dsimp only; omega, by dsimp only; omega, rfl, ?_⟩
         dsimp only
         rw [← numR_step hlt]
         have e1 : (w - 1 - (i : Int)).toNat = w.toNat - 1 - i := by omega
         have e2 : byteAt n w ((w.toNat - 1 - i : Nat) : Int) = IntKind.u8.wrap (n.fdiv (2 ^ min (8 * (i : Int)).toNat IntKind.u64.bits)) := by
           rw [wrap_u8]; unfold byteAt
           rw [show w - 1 - ((w.toNat - 1 - i : Nat) : Int) = i by omega]; rfl
         rw [e1, e2])
      | trace_state
  · cases e
end Go.Eng
