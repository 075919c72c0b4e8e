/- Contracts of functions of the given program, told by plain Lean functions. No condition. -/
import Derived.Test.YtmbcgankddgpjaaDoorProg
import Derived.Test.YtmbcgankddgpjaaDoorEArg
import Derived.KernelRfl
namespace Go.Eng
open Go.Proofs
set_option linter.unusedVariables false
set_option linter.unusedSimpArgs false
set_option maxRecDepth 100000
set_option maxHeartbeats 1000000
theorem drop_step {α : Type} {l : List α} {i : Nat} (h : i < l.length) (d : α) : l.drop i = l.getD i d :: l.drop (i + 1) := by
  rw [List.drop_eq_getElem_cons h, List.getD_eq_getElem?_getD, List.getElem?_eq_getElem h]; rfl
theorem getD_mem' {α : Type} {l : List α} {j : Nat} (h : j < l.length) (d : α) : l.getD j d ∈ l := by
  rw [List.getD_eq_getElem?_getD, List.getElem?_eq_getElem h]; exact List.getElem_mem h
def okW (n : Int) : Bool := !(decide (n = 0) || decide (8 < n) || decide (n < -64))
theorem okW_t {n : Int} : okW n = true ↔ n ≠ 0 ∧ n ≤ 8 ∧ -64 ≤ n := by unfold okW; simp; omega
theorem okW_f {n : Int} : okW n = false ↔ ¬ (n ≠ 0 ∧ n ≤ 8 ∧ -64 ≤ n) := by rw [← okW_t]; simp
def rightF (w : List Int) : Bool := decide (w.length ≤ 64) && w.all okW
theorem rightF_t {w : List Int} : rightF w = true ↔ w.length ≤ 64 ∧ ∀ n ∈ w, n ≠ 0 ∧ n ≤ 8 ∧ -64 ≤ n := by
  unfold rightF; simp only [Bool.and_eq_true, decide_eq_true_eq, List.all_eq_true, okW_t]
def ir_row_Right : IR :=
(.seq
(.keep [0]
(.reg (oD 2 (.mov cF) ::
[])))
(.seq
(.seq
(.reg (oM 5 0 ::
oD 6 (.len (.t 5)) ::
oD 7 (.bin .gtr (.t 6) (cI 64)) ::
[]))
(.cond (.t 7)
(.seq
(.reg (oD 2 (.mov cF) ::
[]))
.ret)
.skip))
(.seq
(.seq
(.reg (oM 8 0 ::
oD 9 (.len (.t 8)) ::
oD 10 (.mov (cI 0)) ::
[]))
(.block 0
(.loop
(.seq
(.keep [8, 9, 10]
(.reg (oD 11 (.bin .lss (.t 10) (.t 9)) ::
[])))
(.seq
(.cond (.t 11)
.skip
(.exit 0))
(.seq
(.block 1
(.seq
(.reg (oD 12 (.indexSl 1 (.t 8) (.t 10)) ::
oL 13 12 ::
oM 4 13 ::
[]))
(.seq
(.keep [4, 8, 9, 10]
(.reg (oM 14 4 ::
oD 15 (.bin .eql (.t 14) (cI 0)) ::
oM 16 15 ::
oF 16 17 (.mov (.t 4)) ::
oF 16 18 (.bin .gtr (.t 17) (cI 8)) ::
oD 19 (.pick (.t 16) cT (.t 18)) ::
oM 20 19 ::
oF 20 21 (.mov (.t 4)) ::
oF 20 22 (.bin .lss (.t 21) (cI (-64))) ::
oD 23 (.pick (.t 20) cT (.t 22)) ::
[])))
(.cond (.t 23)
(.seq
(.keep []
(.reg (oD 2 (.mov cF) ::
[])))
.ret)
.skip))))
(.keep [8, 9, 10]
(.reg (oD 24 (.bin .add (.t 10) (cI 1)) ::
oM 10 24 ::
[])))))))))
(.seq
(.keep []
(.reg (oD 2 (.mov cT) ::
[])))
.ret))))
def rd_row_Right : List RD := [.tmp 2 true none]
theorem ok_row_Right : fnOk Tryd.prog Tryd.f95 ir_row_Right rd_row_Right = true := by kernel_rfl
def S_row_Right : List AV → List Obj → Option (Prop × AV)
  | [.imm (.int .i64) w], [] => some ((True, .bool (rightF w)))
  | _, _ => none
theorem snd_row_Right : SoundS Tryd.prog 95 (RoF S_row_Right).sum := by
  refine ro_fn Tryd.func95 ok_row_Right (env_nil _) fun args objs p v e => ?_
  unfold S_row_Right at e
  split at e
  · rename_i w
    cases e
    refine ⟨rfl, fun hw ho hp => ?_⟩
    change List Int at w
    repeat' (intro t ht; first | (cases t <;> first | (cases ht; done) | ((try simp only [bn_s] at ht); (try simp only [nd_s] at ht))) | (refine ht ?_ ?_ <;> clear ht) | (refine ht.1 ?_ ?_ <;> clear ht) | (refine ht ?_; clear ht))
    all_goals first
      | (have h64 : ¬ w.length ≤ 64 := by omega
         refine ⟨?_, rfl⟩; unfold rightF; rw [decide_eq_false h64]; rfl)
      | (intro r h1 h2; clear h1; refine h2 ⟨[8, 9, 10], Nat, (fun i => i ≤ w.length ∧ w.all okW = (w.drop i).all okW), fun i => [.imm (.int .i64) w, .int .i64 w.length, .int .i64 i], fun _ => [], fun i => w.length - i, ⟨0, ⟨Nat.zero_le _, rfl⟩, rfl, rfl⟩, ?_⟩; clear h2)
    rintro i ⟨hi, he⟩
    repeat' (intro t ht; first | (cases t <;> first | (cases ht; done) | ((try simp only [bn_s] at ht); (try simp only [nd_s] at ht))) | (refine ht ?_ ?_ <;> clear ht) | (refine ht.1 ?_ ?_ <;> clear ht) | (refine ht ?_; clear ht))
    all_goals first
      | ((try simp only [nd_s, bn_s, mm_s] at *); omega)
      | (have h64 : w.length ≤ 64 := by omega
         have hge : w.length ≤ i := by omega
         refine ⟨?_, rfl⟩; unfold rightF; rw [he, decide_eq_true h64, List.drop_of_length_le hge]; rfl)
      | (have hlt : i < w.length := by omega
         rw [drop_step hlt 0, List.all_cons] at he
         first
           | (have hk : okW (w.getD i 0) = false := okW_f.2 (by omega)
              refine ⟨?_, rfl⟩; unfold rightF; rw [he, hk]; simp; done)
           | (have hk : okW (w.getD i 0) = true := okW_t.2 (by omega)
              rw [hk, Bool.true_and] at he
              exact ⟨i + 1, ⟨hlt, he⟩, by (try simp only [nd_s, bn_s, mm_s] at *); omega, rfl, rfl⟩))
  · cases e
def absI (n : Int) : Int := if 0 - n > n then 0 - n else n
theorem absI_neg {n : Int} (h : n < 0) : absI n = -n := by unfold absI; split <;> omega
theorem absI_nn {n : Int} (h : ¬ n < 0) : absI n = n := by unfold absI; split <;> omega
theorem absI_le {n : Int} : 0 ≤ absI n ∧ n ≤ absI n ∧ -n ≤ absI n ∧ (absI n = n ∨ absI n = -n) := by unfold absI; split <;> omega
def oneI (n : Int) : Int := if 0 < n then 1 else 0
def sumT (f : Int → Int) (w : List Int) (i : Nat) : Int := ((w.take i).map f).sum
theorem sumT_step (f : Int → Int) {l : List Int} {i : Nat} (h : i < l.length) : sumT f l (i + 1) = sumT f l i + f (l.getD i 0) := by
  unfold sumT
  rw [List.take_succ_eq_append_getElem h, List.map_append, List.sum_append]
  have : l.getD i 0 = l[i] := by rw [List.getD_eq_getElem?_getD, List.getElem?_eq_getElem h]; rfl
  rw [this]; simp
theorem sumT_end (f : Int → Int) {l : List Int} {i : Nat} (h : l.length ≤ i) : sumT f l i = (l.map f).sum := by
  unfold sumT; rw [List.take_of_length_le h]
theorem sum_nn : ∀ {l : List Int} {c : Int}, (∀ x ∈ l, 0 ≤ x ∧ x ≤ c) → 0 ≤ l.sum ∧ l.sum ≤ c * l.length
  | [], c, _ => by simp
  | x :: l, c, h => by
    have h1 := h x (by simp)
    have h2 := sum_nn (l := l) (c := c) fun y hy => h y (by simp [hy])
    rw [List.sum_cons, List.length_cons, Int.natCast_add, Int.mul_add]
    omega
theorem sumT_abs {w : List Int} (h : rightF w = true) (i : Nat) : 0 ≤ sumT absI w i ∧ sumT absI w i ≤ 4096 := by
  obtain ⟨h1, h2⟩ := rightF_t.1 h
  unfold sumT
  have := sum_nn (l := (w.take i).map absI) (c := 64) fun x hx => by
    obtain ⟨y, hy, rfl⟩ := List.mem_map.1 hx
    have := h2 y (List.mem_of_mem_take hy)
    have := absI_le (n := y); omega
  rw [List.length_map, List.length_take] at this
  omega
theorem sumT_one {w : List Int} (h : rightF w = true) (i : Nat) : 0 ≤ sumT oneI w i ∧ sumT oneI w i ≤ 64 := by
  obtain ⟨h1, h2⟩ := rightF_t.1 h
  unfold sumT
  have := sum_nn (l := (w.take i).map oneI) (c := 1) fun x hx => by
    obtain ⟨y, hy, rfl⟩ := List.mem_map.1 hx
    unfold oneI; split <;> omega
  rw [List.length_map, List.length_take] at this
  omega
def sizeW (w : List Int) : Int := if rightF w then (w.map absI).sum else 0
def countW (w : List Int) : Int := if rightF w then (w.map oneI).sum else 0
theorem sizeW_le (w : List Int) : 0 ≤ sizeW w ∧ sizeW w ≤ 4096 := by
  unfold sizeW; split
  · rename_i h; have := sumT_abs h w.length; rwa [sumT_end absI (Nat.le_refl _)] at this
  · omega
theorem countW_le (w : List Int) : 0 ≤ countW w ∧ countW w ≤ 64 := by
  unfold countW; split
  · rename_i h; have := sumT_one h w.length; rwa [sumT_end oneI (Nat.le_refl _)] at this
  · omega
def ir_row_Size : IR :=
(.seq
(.keep [0]
(.reg (oD 2 (.mov (cI 0)) ::
[])))
(.seq
(.seq
(.reg (oM 5 0 ::
oD 6 (.call false (.f 95) [(.t 5)]) ::
oD 7 (.un .not (.t 6)) ::
[]))
(.cond (.t 7)
(.seq
(.reg (oD 2 (.mov (cI 0)) ::
[]))
.ret)
.skip))
(.seq
(.seq
(.reg (oM 8 0 ::
oD 9 (.len (.t 8)) ::
oD 10 (.mov (cI 0)) ::
[]))
(.block 0
(.loop
(.seq
(.keep [2, 8, 9, 10]
(.reg (oD 11 (.bin .lss (.t 10) (.t 9)) ::
[])))
(.seq
(.cond (.t 11)
.skip
(.exit 0))
(.seq
(.block 1
(.seq
(.reg (oD 12 (.indexSl 1 (.t 8) (.t 10)) ::
oL 13 12 ::
oM 4 13 ::
[]))
(.keep [2, 4, 8, 9, 10]
(.reg (oM 14 2 ::
oM 15 4 ::
oM 16 4 ::
oD 17 (.un .neg (.t 16)) ::
oD 18 (.minmax true (.t 15) (.t 17)) ::
oD 19 (.bin .add (.t 14) (.t 18)) ::
oM 2 19 ::
[])))))
(.keep [2, 8, 9, 10]
(.reg (oD 20 (.bin .add (.t 10) (cI 1)) ::
oM 10 20 ::
[])))))))))
(.seq
(.keep [2]
(.reg (oM 21 2 ::
oM 2 21 ::
[])))
.ret))))
def rd_row_Size : List RD := [.tmp 2 true none]
theorem ok_row_Size : fnOk Tryd.prog Tryd.f73 ir_row_Size rd_row_Size = true := by kernel_rfl
def S_row_Size : List AV → List Obj → Option (Prop × AV)
  | [.imm (.int .i64) w], [] => some ((True, .int .i64 (sizeW w)))
  | _, _ => none
theorem snd_row_Size : SoundS Tryd.prog 73 (RoF S_row_Size).sum := by
  refine ro_fn Tryd.func73 ok_row_Size (env_cons (s := RoF S_row_Right) snd_row_Right (env_nil _)) fun args objs p v e => ?_
  unfold S_row_Size at e
  split at e
  · rename_i w
    cases e
    refine ⟨rfl, fun hw ho hp => ?_⟩
    change List Int at w
    repeat' (intro t ht; first | (cases t <;> first | (cases ht; done) | ((try simp only [bn_s] at ht); (try simp only [nd_s] at ht))) | (refine ht ?_ ?_ <;> clear ht) | (refine ht.1 ?_ ?_ <;> clear ht) | (refine ht ?_; clear ht))
    all_goals first
      | exact True.intro
      | (refine ⟨?_, rfl⟩; unfold sizeW; simp_all; done)
      | (intro r h1 h2; clear h1; refine h2 ⟨[2, 8, 9, 10], Nat, (fun i => i ≤ w.length), fun i => [.int .i64 (sumT absI w i), .imm (.int .i64) w, .int .i64 w.length, .int .i64 i], fun _ => [], fun i => w.length - i, ⟨0, Nat.zero_le _, rfl, rfl⟩, ?_⟩; clear h2)
    intro i hi
    have hr : rightF w = true := by assumption
    have hl := (rightF_t.1 hr).1
    have hs := sumT_abs hr i
    repeat' (intro t ht; first | (cases t <;> first | (cases ht; done) | ((try simp only [bn_s] at ht); (try simp only [nd_s] at ht))) | (refine ht ?_ ?_ <;> clear ht) | (refine ht.1 ?_ ?_ <;> clear ht) | (refine ht ?_; clear ht))
    all_goals first
      | ((try simp only [nd_s, bn_s, mm_s] at *); omega)
      | (have hge : w.length ≤ i := by omega
         refine ⟨?_, rfl⟩; unfold sizeW; rw [if_pos hr, sumT_end absI hge]; done)
      | (have hlt : i < w.length := by omega
         have hk := (rightF_t.1 hr).2 _ (getD_mem' hlt 0)
         have ha := absI_le (n := w.getD i 0)
         first
           | ((try simp only [nd_s, bn_s, mm_s] at *); omega)
           | (show IntKind.i64.min ≤ sumT absI w i + absI (w.getD i 0) ∧ sumT absI w i + absI (w.getD i 0) ≤ IntKind.i64.max; (try simp only [nd_s, bn_s, mm_s] at *); omega)
           | (refine ⟨i + 1, hlt, by (try simp only [nd_s, bn_s, mm_s] at *); omega, ?_, rfl⟩
              dsimp only
              rw [sumT_step absI hlt]; rfl))
      | trace_state
  · cases e
def ir_row_Count : IR :=
(.seq
(.keep [0]
(.reg (oD 2 (.mov (cI 0)) ::
[])))
(.seq
(.seq
(.reg (oM 5 0 ::
oD 6 (.call false (.f 95) [(.t 5)]) ::
oD 7 (.un .not (.t 6)) ::
[]))
(.cond (.t 7)
(.seq
(.reg (oD 2 (.mov (cI 0)) ::
[]))
.ret)
.skip))
(.seq
(.seq
(.reg (oM 8 0 ::
oD 9 (.len (.t 8)) ::
oD 10 (.mov (cI 0)) ::
[]))
(.block 0
(.loop
(.seq
(.keep [2, 8, 9, 10]
(.reg (oD 11 (.bin .lss (.t 10) (.t 9)) ::
[])))
(.seq
(.cond (.t 11)
.skip
(.exit 0))
(.seq
(.block 1
(.seq
(.reg (oD 12 (.indexSl 1 (.t 8) (.t 10)) ::
oL 13 12 ::
oM 4 13 ::
[]))
(.seq
(.reg (oM 14 4 ::
oD 15 (.bin .gtr (.t 14) (cI 0)) ::
[]))
(.cond (.t 15)
(.keep [2, 8, 9, 10]
(.reg (oM 16 2 ::
oD 17 (.bin .add (.t 16) (cI 1)) ::
oM 2 17 ::
[])))
.skip))))
(.keep [2, 8, 9, 10]
(.reg (oD 18 (.bin .add (.t 10) (cI 1)) ::
oM 10 18 ::
[])))))))))
(.seq
(.keep [2]
(.reg (oM 19 2 ::
oM 2 19 ::
[])))
.ret))))
def rd_row_Count : List RD := [.tmp 2 true none]
theorem ok_row_Count : fnOk Tryd.prog Tryd.f86 ir_row_Count rd_row_Count = true := by kernel_rfl
def S_row_Count : List AV → List Obj → Option (Prop × AV)
  | [.imm (.int .i64) w], [] => some ((True, .int .i64 (countW w)))
  | _, _ => none
theorem snd_row_Count : SoundS Tryd.prog 86 (RoF S_row_Count).sum := by
  refine ro_fn Tryd.func86 ok_row_Count (env_cons (s := RoF S_row_Right) snd_row_Right (env_nil _)) fun args objs p v e => ?_
  unfold S_row_Count at e
  split at e
  · rename_i w
    cases e
    refine ⟨rfl, fun hw ho hp => ?_⟩
    change List Int at w
    repeat' (intro t ht; first | (cases t <;> first | (cases ht; done) | ((try simp only [bn_s] at ht); (try simp only [nd_s] at ht))) | (refine ht ?_ ?_ <;> clear ht) | (refine ht.1 ?_ ?_ <;> clear ht) | (refine ht ?_; clear ht))
    all_goals first
      | exact True.intro
      | (refine ⟨?_, rfl⟩; unfold countW; simp_all; done)
      | (intro r h1 h2; clear h1; refine h2 ⟨[2, 8, 9, 10], Nat, (fun i => i ≤ w.length), fun i => [.int .i64 (sumT oneI w i), .imm (.int .i64) w, .int .i64 w.length, .int .i64 i], fun _ => [], fun i => w.length - i, ⟨0, Nat.zero_le _, rfl, rfl⟩, ?_⟩; clear h2)
    intro i hi
    have hr : rightF w = true := by assumption
    have hl := (rightF_t.1 hr).1
    have hs := sumT_one hr i
    repeat' (intro t ht; first | (cases t <;> first | (cases ht; done) | ((try simp only [bn_s] at ht); (try simp only [nd_s] at ht))) | (refine ht ?_ ?_ <;> clear ht) | (refine ht.1 ?_ ?_ <;> clear ht) | (refine ht ?_; clear ht))
    all_goals first
      | ((try simp only [nd_s, bn_s, mm_s] at *); omega)
      | (have hge : w.length ≤ i := by omega
         refine ⟨?_, rfl⟩; unfold countW; rw [if_pos hr, sumT_end oneI hge]; done)
      | (have hlt : i < w.length := by omega
         refine ⟨i + 1, hlt, by (try simp only [nd_s, bn_s, mm_s] at *); omega, ?_, rfl⟩
         dsimp only
         rw [sumT_step oneI hlt]
         first
           | (have e : oneI (w.getD i 0) = 1 := if_pos (by assumption)
              rw [e]; rfl)
           | (have e : oneI (w.getD i 0) = 0 := if_neg (by assumption)
              rw [e, Int.add_zero]; rfl))
      | trace_state
  · cases e
theorem or_add {a b : Nat} {n : Nat} (h : b < 2 ^ n) : (a * 2 ^ n) ||| b = a * 2 ^ n + b := by
  have := Nat.shiftLeft_add_eq_or_of_lt h a
  rw [Nat.shiftLeft_eq] at this; exact this.symm
theorem or_byte {n c : Int} (hn : 0 ≤ n) (hm : n * 256 + c ≤ 18446744073709551615) (h0 : 0 ≤ c) (h1 : c ≤ 255) : bitop .or .u64 (n * 256) c = n * 256 + c := by
  obtain ⟨a, rfl⟩ := Int.eq_ofNat_of_zero_le hn
  obtain ⟨b, rfl⟩ := Int.eq_ofNat_of_zero_le h0
  have hb : b < 2 ^ 8 := by omega
  have hlt : a * 256 + b < 2 ^ 64 := by omega
  have e1 : (BitVec.ofInt 64 ((a : Int) * 256)).toNat = a * 256 := by
    have : ((a : Int) * 256) = ((a * 256 : Nat) : Int) := by simp
    rw [this, BitVec.ofInt_natCast, BitVec.toNat_ofNat]; exact Nat.mod_eq_of_lt (by omega)
  have e2 : (BitVec.ofInt 64 (b : Int)).toNat = b := by
    rw [BitVec.ofInt_natCast, BitVec.toNat_ofNat]; exact Nat.mod_eq_of_lt (by omega)
  have e3 : (BitVec.ofInt 64 ((a : Int) * 256) ||| BitVec.ofInt 64 (b : Int)).toNat = a * 256 + b := by
    rw [BitVec.toNat_or, e1, e2]; exact or_add (n := 8) hb
  show IntKind.u64.wrap ((BitVec.ofInt 64 ((a : Int) * 256) ||| BitVec.ofInt 64 (b : Int)).toNat : Int) = _
  rw [e3, wrap_id ⟨by rw [min_u64]; omega, by rw [max_u64]; omega⟩]
  simp
/-- The number that bytes are. -/
def numL (b : List Int) : Int := b.foldl (fun n c => n * 256 + c) 0
theorem numL_snoc (l : List Int) (c : Int) : numL (l ++ [c]) = numL l * 256 + c := by simp [numL]
theorem numA_le : ∀ (l : List Int) (a : Int), (∀ x ∈ l, 0 ≤ x ∧ x ≤ 255) → 0 ≤ a → 0 ≤ l.foldl (fun n c => n * 256 + c) a ∧ l.foldl (fun n c => n * 256 + c) a < (a + 1) * 256 ^ l.length
  | [], a, _, ha => by simp; omega
  | c :: l, a, h, ha => by
    have hc := h c (by simp)
    have ih := numA_le l (a * 256 + c) (fun x hx => h x (by simp [hx])) (by omega)
    rw [List.foldl_cons, List.length_cons, Int.pow_succ, Int.mul_comm (256 ^ l.length) 256, ← Int.mul_assoc]
    have hp : (0 : Int) ≤ 256 ^ l.length := Int.le_of_lt (Int.pow_pos (by decide))
    have hm := Int.mul_le_mul_of_nonneg_right (show a * 256 + c + 1 ≤ (a + 1) * 256 by omega) hp
    omega
theorem numL_le (l : List Int) (h : ∀ x ∈ l, 0 ≤ x ∧ x ≤ 255) : 0 ≤ numL l ∧ numL l < 256 ^ l.length := by
  have := numA_le l 0 h (Int.le_refl _)
  rwa [Int.zero_add, Int.one_mul] at this
def numT (b : List Int) (i : Nat) : Int := numL (b.take i)
theorem numT_step {b : List Int} {i : Nat} (h : i < b.length) : numT b (i + 1) = numT b i * 256 + b.getD i 0 := by
  unfold numT
  rw [List.take_succ_eq_append_getElem h, numL_snoc, List.getD_eq_getElem?_getD, List.getElem?_eq_getElem h]; rfl
theorem numT_end {b : List Int} {i : Nat} (h : b.length ≤ i) : numT b i = numL b := by unfold numT; rw [List.take_of_length_le h]
theorem pow256 : ∀ k ≤ 8, (256 : Int) ^ k ≤ 18446744073709551616 := by decide
theorem pow256' : ∀ k ≤ 7, (256 : Int) ^ k ≤ 72057594037927936 := by decide
theorem numT_le {b : List Int} (hb : ∀ x ∈ b, 0 ≤ x ∧ x ≤ 255) (i : Nat) (hi : i ≤ 7) : 0 ≤ numT b i ∧ numT b i < 72057594037927936 := by
  have h1 := numL_le (b.take i) fun x hx => hb x (List.mem_of_mem_take hx)
  have h2 : (256 : Int) ^ (b.take i).length ≤ 72057594037927936 := pow256' _ (by rw [List.length_take]; omega)
  unfold numT; omega
def ir_row_number : IR :=
(.seq
(.keep [0]
(.reg (oD 2 (.mov (.c (.int .u64 0))) ::
[])))
(.seq
(.seq
(.reg (oM 5 0 ::
oD 6 (.len (.t 5)) ::
oD 7 (.mov (cI 0)) ::
[]))
(.block 0
(.loop
(.seq
(.keep [2, 5, 6, 7]
(.reg (oD 8 (.bin .lss (.t 7) (.t 6)) ::
[])))
(.seq
(.cond (.t 8)
.skip
(.exit 0))
(.seq
(.block 1
(.seq
(.reg (oD 9 (.indexSl 1 (.t 5) (.t 7)) ::
oL 10 9 ::
oM 4 10 ::
[]))
(.keep [2, 4, 5, 6, 7]
(.reg (oM 11 2 ::
oD 12 (.bin .shl (.t 11) (.c (.int .u64 8))) ::
oM 13 4 ::
oD 14 (.conv .u64 (.t 13)) ::
oD 15 (.bin .or (.t 12) (.t 14)) ::
oM 2 15 ::
[])))))
(.keep [2, 5, 6, 7]
(.reg (oD 16 (.bin .add (.t 7) (cI 1)) ::
oM 7 16 ::
[])))))))))
(.seq
(.keep [2]
(.reg (oM 17 2 ::
oM 2 17 ::
[])))
.ret)))
def rd_row_number : List RD := [.tmp 2 true none]
theorem ok_row_number : fnOk Tryd.prog Tryd.f96 ir_row_number rd_row_number = true := by kernel_rfl
def S_row_number : List AV → List Obj → Option (Prop × AV)
  | [.imm (.int .u8) b], [] => some ((b.length ≤ 8, .int .u64 (numL b)))
  | _, _ => none
theorem snd_row_number : SoundS Tryd.prog 96 (RoF S_row_number).sum := by
  refine ro_fn Tryd.func96 ok_row_number (env_nil _) fun args objs p v e => ?_
  unfold S_row_number at e
  split at e
  · rename_i b
    cases e
    refine ⟨rfl, fun hw ho hp => ?_⟩
    change List Int at b
    have hb : ∀ x ∈ (b : List Int), (0 : Int) ≤ x ∧ x ≤ 255 := fun x hx => (hw (.imm (.int .u8) b) (by simp)).1 x hx
    repeat' (intro t ht; first | (cases t <;> first | (cases ht; done) | ((try simp only [bn_s] at ht); (try simp only [nd_s] at ht))) | (refine ht ?_ ?_ <;> clear ht) | (refine ht.1 ?_ ?_ <;> clear ht) | (refine ht ?_; clear ht))
    all_goals first
      | (intro r h1 h2; clear h1; refine h2 ⟨[2, 5, 6, 7], Nat, (fun i => i ≤ b.length), fun i => [.int .u64 (numT b i), .imm (.int .u8) b, .int .i64 b.length, .int .i64 i], fun _ => [], fun i => b.length - i, ⟨0, Nat.zero_le _, rfl, rfl⟩, ?_⟩; clear h2)
    intro i hi
    repeat' (intro t ht; first | (cases t <;> first | (cases ht; done) | ((try simp only [bn_s] at ht); (try simp only [nd_s] at ht))) | (refine ht ?_ ?_ <;> clear ht) | (refine ht.1 ?_ ?_ <;> clear ht) | (refine ht ?_; clear ht))
    all_goals first
      | ((try simp only [nd_s, bn_s, mm_s] at *); omega)
      | (have hge : b.length ≤ i := by omega
         refine ⟨?_, rfl⟩; rw [numT_end hge]; done)
      | exact (by decide)
      | (have hlt : i < b.length := by omega
         have hk := hb _ (getD_mem' (α := Int) hlt 0)
         have hn := numT_le hb i (by omega)
         first
           | (show IntKind.u64.min ≤ numT b i * 256 ∧ numT b i * 256 ≤ IntKind.u64.max; (try simp only [nd_s, bn_s, mm_s] at *); omega)
           | ((try simp only [nd_s, bn_s, mm_s] at *); omega)
           | (refine ⟨i + 1, hlt, by (try simp only [nd_s, bn_s, mm_s] at *); omega, ?_, rfl⟩
              dsimp only
              rw [numT_step hlt]
              have e : bitop .or .u64 (numT b i * 256) (b.getD i 0) = numT b i * 256 + b.getD i 0 := or_byte hn.1 (by omega) hk.1 hk.2
              rw [← e]; rfl))
      | trace_state
  · cases e
def zeroL (b : List Int) : Bool := b.all fun c => decide (c = 0)
def ir_row_zero : IR :=
(.seq
(.keep [0]
(.reg (oD 2 (.mov cF) ::
[])))
(.seq
(.seq
(.reg (oM 5 0 ::
oD 6 (.len (.t 5)) ::
oD 7 (.mov (cI 0)) ::
[]))
(.block 0
(.loop
(.seq
(.keep [5, 6, 7]
(.reg (oD 8 (.bin .lss (.t 7) (.t 6)) ::
[])))
(.seq
(.cond (.t 8)
.skip
(.exit 0))
(.seq
(.block 1
(.seq
(.reg (oD 9 (.indexSl 1 (.t 5) (.t 7)) ::
oL 10 9 ::
oM 4 10 ::
[]))
(.seq
(.reg (oM 11 4 ::
oD 12 (.bin .neq (.t 11) (.c (.int .u8 0))) ::
[]))
(.cond (.t 12)
(.seq
(.keep []
(.reg (oD 2 (.mov cF) ::
[])))
.ret)
.skip))))
(.keep [5, 6, 7]
(.reg (oD 13 (.bin .add (.t 7) (cI 1)) ::
oM 7 13 ::
[])))))))))
(.seq
(.keep []
(.reg (oD 2 (.mov cT) ::
[])))
.ret)))
def rd_row_zero : List RD := [.tmp 2 true none]
theorem ok_row_zero : fnOk Tryd.prog Tryd.f97 ir_row_zero rd_row_zero = true := by kernel_rfl
def S_row_zero : List AV → List Obj → Option (Prop × AV)
  | [.imm (.int .u8) b], [] => some ((True, .bool (zeroL b)))
  | _, _ => none
theorem snd_row_zero : SoundS Tryd.prog 97 (RoF S_row_zero).sum := by
  refine ro_fn Tryd.func97 ok_row_zero (env_nil _) fun args objs p v e => ?_
  unfold S_row_zero at e
  split at e
  · rename_i b
    cases e
    refine ⟨rfl, fun hw ho hp => ?_⟩
    change List Int at b
    have hl : b.length ≤ maxLen := (hw (.imm (.int .u8) b) (by simp)).2
    unfold maxLen at hl
    repeat' (intro t ht; first | (cases t <;> first | (cases ht; done) | ((try simp only [bn_s] at ht); (try simp only [nd_s] at ht))) | (refine ht ?_ ?_ <;> clear ht) | (refine ht.1 ?_ ?_ <;> clear ht) | (refine ht ?_; clear ht))
    all_goals first
      | (intro r h1 h2; clear h1; refine h2 ⟨[5, 6, 7], Nat, (fun i => i ≤ b.length ∧ zeroL b = zeroL (b.drop i)), fun i => [.imm (.int .u8) b, .int .i64 b.length, .int .i64 i], fun _ => [], fun i => b.length - i, ⟨0, ⟨Nat.zero_le _, rfl⟩, rfl, rfl⟩, ?_⟩; clear h2)
    rintro i ⟨hi, he⟩
    repeat' (intro t ht; first | (cases t <;> first | (cases ht; done) | ((try simp only [bn_s] at ht); (try simp only [nd_s] at ht))) | (refine ht ?_ ?_ <;> clear ht) | (refine ht.1 ?_ ?_ <;> clear ht) | (refine ht ?_; clear ht))
    all_goals first
      | ((try simp only [nd_s, bn_s, mm_s] at *); omega)
      | (have hge : b.length ≤ i := by omega
         refine ⟨?_, rfl⟩; rw [he, List.drop_of_length_le hge]; rfl)
      | (have hlt : i < b.length := by omega
         rw [drop_step hlt 0] at he
         unfold zeroL at he
         rw [List.all_cons] at he
         first
           | (have hk : decide (b.getD i 0 = 0) = false := decide_eq_false (by assumption)
              refine ⟨?_, rfl⟩; unfold zeroL; rw [he, hk]; rfl)
           | (have hk : decide (b.getD i 0 = 0) = true := decide_eq_true (by assumption)
              rw [hk, Bool.true_and] at he
              exact ⟨i + 1, ⟨hlt, he⟩, by (try simp only [nd_s, bn_s, mm_s] at *); omega, rfl, rfl⟩))
      | trace_state
  · cases e
theorem wrap_u8 (x : Int) : IntKind.u8.wrap x = x % 256 := by simp [IntKind.wrap, IntKind.signed, IntKind.bits]
def byteAt (n w j : Int) : Int := (n.fdiv (2 ^ (min (8 * (w - 1 - j)).toNat 64))) % 256
def bytesT (n w : Int) (i : Nat) : List Int := (List.range i).map fun j : Nat => byteAt n w j
def bytesN (n w : Int) : List Int := bytesT n w w.toNat
theorem bytesT_step (n w : Int) (i : Nat) : bytesT n w (i + 1) = bytesT n w i ++ [byteAt n w i] := by
  unfold bytesT; rw [List.range_succ, List.map_append]; rfl
theorem bytesT_len (n w : Int) (i : Nat) : (bytesT n w i).length = i := by unfold bytesT; simp
theorem byteAt_le (n w j : Int) : 0 ≤ byteAt n w j ∧ byteAt n w j ≤ 255 := by unfold byteAt; omega
theorem bytesN_len {n w : Int} (h : 0 ≤ w) : ((bytesN n w).length : Int) = w := by unfold bytesN; rw [bytesT_len]; omega
def ir_row_put : IR :=
(.seq
(.keep [0, 1, 2]
(.reg (oD 6 (.mov (.c (.imm (.int .u8) []))) ::
[])))
(.seq
(.seq
(.reg (oM 8 2 ::
oD 9 (.mov (cI 0)) ::
[]))
(.block 0
(.loop
(.seq
(.keep [0, 1, 2, 8, 9]
(.reg (oD 10 (.bin .lss (.t 9) (.t 8)) ::
[])))
(.seq
(.cond (.t 10)
.skip
(.exit 0))
(.seq
(.block 1
(.seq
(.reg (oM 11 9 ::
oM 7 11 ::
[]))
(.keep [0, 1, 2, 7, 8, 9]
(.reg (oM 12 0 ::
oM 13 1 ::
oM 14 2 ::
oD 15 (.bin .sub (.t 14) (cI 1)) ::
oM 16 7 ::
oD 17 (.bin .sub (.t 15) (.t 16)) ::
oD 18 (.bin .mul (cI 8) (.t 17)) ::
oD 19 (.bin .shr (.t 13) (.t 18)) ::
oD 20 (.conv .u8 (.t 19)) ::
oD 21 (.sliceAll (.int .u8) 1 [(0, 1, (.t 20))]) ::
oD 22 (.append (.int .u8) 1 (.t 12) (.t 21)) ::
oM 0 22 ::
[])))))
(.keep [0, 1, 2, 8, 9]
(.reg (oD 23 (.bin .add (.t 9) (cI 1)) ::
oM 9 23 ::
[])))))))))
(.seq
(.keep [0]
(.reg (oM 24 0 ::
oM 6 24 ::
[])))
.ret)))
def rd_row_put : List RD := [.tmp 6 false none]
theorem ok_row_put : fnOk Tryd.prog Tryd.f107 ir_row_put rd_row_put = true := by kernel_rfl
def S_row_put : List AV → List Obj → Option (Prop × AV × List Obj)
  | [.own 0, .int .u64 n, .int .i64 w], [.row false (.int .u8) l] => some ((1 ≤ w ∧ w ≤ 64 ∧ l.length ≤ 100000000, .own 1, [.dead, .row false (.int .u8) (l ++ bytesN n w)]))
  | _, _ => none
theorem snd_row_put : SoundS Tryd.prog 107 (RwF S_row_put).sum := by
  refine rw_fn Tryd.func107 ok_row_put (env_nil _) fun args objs p v o e => ?_
  unfold S_row_put at e
  split at e
  · rename_i n w l
    cases e
    refine ⟨rfl, fun hw ho hp => ?_⟩
    change List Int at l
    repeat' (intro t ht; first | (cases t <;> first | (cases ht; done) | ((try simp only [bn_s] at ht); (try simp only [nd_s] at ht))) | (refine ht ?_ ?_ <;> clear ht) | (refine ht.1 ?_ ?_ <;> clear ht) | (refine ht ?_; clear ht))
    all_goals first
      | (intro r h1 h2; clear h1; refine h2 ⟨[0, 1, 2, 8, 9], Nat, (fun i => (i : Int) ≤ w), fun i => [match i with | 0 => .own 0 | _ + 1 => .own 1, .int .u64 n, .int .i64 w, .int .i64 w, .int .i64 i], fun i => match i with | 0 => [.row false (.int .u8) l] | i + 1 => [.dead, .row false (.int .u8) (l ++ bytesT n w (i + 1))], fun i => w.toNat - i, ⟨0, by omega, rfl, rfl⟩, ?_⟩; clear h2)
    rintro (_ | i) hi
    all_goals repeat' (intro t ht; first | (cases t <;> first | (cases ht; done) | ((try simp only [bn_s] at ht); (try simp only [nd_s] at ht))) | (refine ht ?_ ?_ <;> clear ht) | (refine ht.1 (by simp only [mm_s]; omega) ?_; clear ht) | (refine ht.2 ?_; clear ht) | (refine ht ?_; clear ht))
    all_goals first
      | (exfalso; omega)
      | omega
      | (simp only [cast_rfl, List.length_append, List.length_cons, List.length_nil, bytesT_len]; omega)
      | (refine ⟨1, by omega, by dsimp only; omega, rfl, ?_⟩
         show [Obj.dead, Obj.row false (.int .u8) (l ++ [IntKind.u8.wrap (n.fdiv (2 ^ min (8 * (w - 1 - ((0 : Nat) : Int))).toNat 64))])] = [Obj.dead, Obj.row false (.int .u8) (l ++ bytesT n w (0 + 1))]
         rw [bytesT_step, wrap_u8]; rfl)
      | (have e : w.toNat = i + 1 := by omega
         refine ⟨rfl, ?_⟩; unfold bytesN; rw [e])
      | (refine ⟨i + 1 + 1, by omega, by dsimp only; omega, rfl, ?_⟩
         show [Obj.dead, Obj.row false (.int .u8) ((l ++ bytesT n w (i + 1)) ++ [IntKind.u8.wrap (n.fdiv (2 ^ min (8 * (w - 1 - ((i + 1 : Nat) : Int))).toNat 64))])] = [Obj.dead, Obj.row false (.int .u8) (l ++ bytesT n w (i + 1 + 1))]
         rw [bytesT_step n w (i + 1), wrap_u8, List.append_assoc]; rfl)
      | trace_state
  · cases e
end Go.Eng
