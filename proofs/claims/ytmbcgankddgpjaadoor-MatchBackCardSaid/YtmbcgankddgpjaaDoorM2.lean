/- Contracts of functions of the given program, told by plain Lean functions. No condition. -/
import Derived.Test.YtmbcgankddgpjaaDoorProg
import Derived.Test.YtmbcgankddgpjaaDoorEArg
import Derived.KernelRfl
import Derived.Test.YtmbcgankddgpjaaDoorM1
import Derived.Test.YtmbcgankddgpjaaDoorOG
import Derived.Test.YtmbcgankddgpjaaDoorN1
namespace Go.Eng
open Go.Proofs
set_option linter.unusedVariables false
set_option linter.unusedSimpArgs false
set_option maxRecDepth 100000
set_option maxHeartbeats 1000000
theorem anyT_step {α : Type} {p : α → Bool} {l : List α} {i : Nat} {d : α} (h : i < l.length) (ht : (l.take i).any p = false) (hd : p (l.getD i d) = false) : (l.take (i + 1)).any p = false := by
  rw [List.take_succ_eq_append_getElem h, List.any_append, ht, Bool.false_or, List.any_cons, List.any_nil, Bool.or_false]
  rwa [List.getD_eq_getElem?_getD, List.getElem?_eq_getElem h] at hd
theorem anyT_end {α : Type} {p : α → Bool} {l : List α} {i : Nat} (h : l.length ≤ i) (ht : (l.take i).any p = false) : l.any p = false := by
  rwa [List.take_of_length_le h] at ht
theorem any_hit {α : Type} {p : α → Bool} {l : List α} {i : Nat} {d : α} (h : i < l.length) (hd : p (l.getD i d) = true) : l.any p = true :=
  List.any_eq_true.2 ⟨_, getD_mem' h d, hd⟩
theorem allT_step {α : Type} {f : α → Bool} {l : List α} {i : Nat} {d : α} (h : i < l.length) (ht : (l.take i).all f = true) (hd : f (l.getD i d) = true) : (l.take (i + 1)).all f = true := by
  rw [List.take_succ_eq_append_getElem h, List.all_append, ht, Bool.true_and, List.all_cons, List.all_nil, Bool.and_true]
  rwa [List.getD_eq_getElem?_getD, List.getElem?_eq_getElem h] at hd
theorem allT_end {α : Type} {f : α → Bool} {l : List α} {i : Nat} (h : l.length ≤ i) (ht : (l.take i).all f = true) : l.all f = true := by
  rwa [List.take_of_length_le h] at ht
theorem all_miss {α : Type} {f : α → Bool} {l : List α} {i : Nat} {d : α} (h : i < l.length) (hd : f (l.getD i d) = false) : l.all f = false := by
  rw [List.all_eq_false]
  exact ⟨l.getD i d, getD_mem' h d, by rw [hd]; decide⟩
def metN (c f : Int) : Bool := decide (c ≠ 32768) || !fIs f || decide (fNeed f < 0)
/-- Does what a field asks for stand in a list? -/
def metO (l : List OV) (c f : Int) : Bool := if metN c f = true then true else l.any (mtO (fNeed f) (fVals f))
def ir_need_Met : IR :=
(.seq
(.keep [0, 1]
(.reg (oD 3 (.boxv (.t 1)) ::
oD 4 (.mov cF) ::
[])))
(.seq
(.keep [0, 3]
(.reg (oD 8 (.fieldAddr 1 (.t 3)) ::
oL 9 8 ::
oD 10 (.call false (.f 98) [(.t 9)]) ::
oM 7 10 ::
oD 11 (.extract (.t 7) 0) ::
oD 12 (.extract (.t 7) 1) ::
oD 5 (.box [.int .i64 0, .int .i64 0, .kb false, .int .i64 0, .imm (.int .u64) []]) ::
oN (.store 5 (.t 5) (.t 11)) ::
oM 6 12 ::
[])))
(.seq
(.seq
(.keep [0, 3, 5, 6]
(.reg (oD 13 (.fieldAddr 0 (.t 3)) ::
oL 14 13 ::
oD 15 (.bin .neq (.t 14) (cI 32768)) ::
oM 16 15 ::
oF 16 17 (.mov (.t 6)) ::
oF 16 18 (.un .not (.t 17)) ::
oD 19 (.pick (.t 16) cT (.t 18)) ::
oM 20 19 ::
oF 20 21 (.fieldAddr 3 (.t 5)) ::
oF 20 22 (.load none (.t 21)) ::
oF 20 23 (.bin .lss (.t 22) (cI 0)) ::
oD 24 (.pick (.t 20) cT (.t 23)) ::
[])))
(.cond (.t 24)
(.seq
(.keep []
(.reg (oD 4 (.mov cT) ::
[])))
.ret)
.skip))
(.seq
(.keep [0, 5]
(.reg (oM 25 0 ::
oD 26 (.mkfn 103 [] [(.t 5)]) ::
oD 27 (.call false (.f 50) [(.t 25), (.t 26)]) ::
oM 4 27 ::
[])))
.ret))))
def rd_need_Met : List RD := [.tmp 4 true none]
theorem ok_need_Met : fnOk Tryd.prog Tryd.f80 ir_need_Met rd_need_Met = true := by kernel_rfl
def S_need_Met : List AV → List Obj → Option (Prop × AV)
  | [.imm (.cons (.int .i64) (.cons (.int .i64) (.cons .bool (.cons (.int .u64) (.cons (.sl (.int .u8)) (.cons (.sl (.int .u8)) .nil)))))) l, .agg [.int .i64 c, .int .i64 f, .bool h, .int .u64 x, .imm (.int .u8) v, .imm (.int .u8) m]], [] => some ((True, .bool (metO l c f)))
  | _, _ => none
theorem snd_need_Met : SoundS Tryd.prog 80 (RoF S_need_Met).sum := by
  refine ro_fn Tryd.func80 ok_need_Met (env_cons (s := RoF S_field_Of) snd_field_Of (env_cons (s := RoF S_need_Met_1) snd_need_Met_1 (env_cons (s := RoF S_slices_ContainsFunc_api_Oxm_api_Oxm) snd_slices_ContainsFunc_api_Oxm_api_Oxm (env_nil _)))) fun args objs p v e => ?_
  unfold S_need_Met at e
  split at e
  · rename_i l c f h x v m
    cases e
    refine ⟨rfl, fun hw ho hp => ?_⟩
    change List Int at v
    change List Int at m
    change List OV at l
    clear hw ho
    cases hn : metN c f with
    | true =>
      have e : metO l c f = true := by unfold metO; rw [if_pos hn]
      rw [e]
      repeat' (intro t ht; first | (cases t <;> first | (cases ht; done) | ((try simp only [bn_s] at ht); (try simp only [nd_s] at ht); (try (exfalso; first | contradiction | omega)))) | (refine ht ?_ ?_ <;> clear ht) | (refine ht.1 ?_ ?_ <;> clear ht) | (refine ht ?_; clear ht))
      all_goals first
        | exact True.intro
        | exact ⟨rfl, rfl⟩
        | (exfalso; unfold metN at hn; simp_all; done)
        | (exfalso; unfold metN at hn; simp_all; omega)
        | trace_state
    | false =>
      have e : metO l c f = l.any (mtO (fNeed f) (fVals f)) := by unfold metO; rw [hn]; rfl
      rw [e]
      repeat' (intro t ht; first | (cases t <;> first | (cases ht; done) | ((try simp only [bn_s] at ht); (try simp only [nd_s] at ht); (try (exfalso; first | contradiction | omega)))) | (refine ht ?_ ?_ <;> clear ht) | (refine ht.1 ?_ ?_ <;> clear ht) | (refine ht ?_; clear ht))
      all_goals first
        | exact True.intro
        | exact ⟨rfl, rfl⟩
        | (exfalso; unfold metN at hn; simp_all; done)
        | (exfalso; unfold metN at hn; simp_all; omega)
        | trace_state
  · cases e
/-- The first of a list that may not stand there behind others. -/
def ckS : List OV → List OV → Int × Int
  | _, [] => (0, 0)
  | pre, o :: r => if pre.any (fun x => alO x o) = true then (((pre.length : Nat) : Int), 1035) else if metO pre o.1 o.2.1 = true then ckS (pre ++ [o]) r else (((pre.length : Nat) : Int), 1034)
theorem ckS_end {l : List OV} {i : Nat} (h : l.length ≤ i) : ckS (l.take i) (l.drop i) = (0, 0) := by
  rw [List.drop_of_length_le h]; unfold ckS; rfl
theorem tk_getD {α : Type} {b : List α} {k j : Nat} {d : α} (h : j < k) : (b.take k).getD j d = b.getD j d := by
  rw [List.getD_eq_getElem?_getD, List.getD_eq_getElem?_getD, List.getElem?_take, if_pos h]
theorem take_len {α : Type} {l : List α} {i : Nat} (h : i ≤ l.length) : (l.take i).length = i := by rw [List.length_take]; omega
theorem ckS_two {l : List OV} {i : Nat} {d : OV} (h : i < l.length) (hk : (l.take i).any (fun x => alO x (l.getD i d)) = true) : ckS (l.take i) (l.drop i) = (((i : Nat) : Int), 1035) := by
  rw [drop_step h d]; unfold ckS; rw [if_pos hk, take_len (by omega)]
theorem ckS_need {l : List OV} {i : Nat} {d : OV} (h : i < l.length) (hk : (l.take i).any (fun x => alO x (l.getD i d)) = false) (hm : metO (l.take i) (l.getD i d).1 (l.getD i d).2.1 = false) : ckS (l.take i) (l.drop i) = (((i : Nat) : Int), 1034) := by
  rw [drop_step h d]; unfold ckS; rw [if_neg (by rw [hk]; decide), if_neg (by rw [hm]; decide), take_len (by omega)]
theorem ckS_ok {l : List OV} {i : Nat} {d : OV} (h : i < l.length) (hk : (l.take i).any (fun x => alO x (l.getD i d)) = false) (hm : metO (l.take i) (l.getD i d).1 (l.getD i d).2.1 = true) : ckS (l.take i) (l.drop i) = ckS (l.take (i + 1)) (l.drop (i + 1)) := by
  have e : l.take (i + 1) = l.take i ++ [l.getD i d] := by
    rw [List.take_succ_eq_append_getElem h, List.getD_eq_getElem?_getD, List.getElem?_eq_getElem h]; rfl
  rw [e, drop_step h d]
  conv => lhs; unfold ckS
  rw [if_neg (by rw [hk]; decide), if_pos hm]
def ir_need_Check : IR :=
(.seq
(.keep [0]
(.reg (oD 2 (.mov (cI 0)) ::
oD 3 (.mov (cI 0)) ::
[])))
(.scope
(.seq
(.reg (oD 4 (.mov (cI 0)) ::
oD 5 (.mov (cI 0)) ::
[]))
(.seq
.skip
(.seq
(.seq
(.reg (oM 8 0 ::
oD 9 (.len (.t 8)) ::
oD 10 (.mov (cI 0)) ::
[]))
(.block 0
(.loop
(.seq
(.keep [0, 4, 5, 8, 9, 10]
(.reg (oD 11 (.bin .lss (.t 10) (.t 9)) ::
[])))
(.seq
(.cond (.t 11)
.skip
(.exit 0))
(.seq
(.block 1
(.seq
(.keep [0, 4, 5, 8, 9, 10]
(.reg (oM 12 10 ::
oD 13 (.indexSl 6 (.t 8) (.t 10)) ::
oD 14 (.load (some 6) (.t 13)) ::
oD 7 (.box [.int .i64 0, .int .i64 0, .kb false, .int .u64 0, .imm (.int .u8) [], .imm (.int .u8) []]) ::
oM 6 12 ::
oN (.store 6 (.t 7) (.t 14)) ::
[])))
(.block 2
(.seq
(.keep [0, 4, 5, 6, 7, 8, 9, 10]
(.reg (oM 16 0 ::
oM 17 6 ::
oD 18 (.slice 6 (.t 16) none (some (.t 17)) none) ::
oD 19 (.mkfn 78 [] [(.t 7)]) ::
oD 20 (.call false (.f 50) [(.t 18), (.t 19)]) ::
oM 15 20 ::
[])))
(.cond (.t 15)
(.seq
(.keep [6]
(.reg (oM 21 6 ::
oM 4 21 ::
oD 5 (.mov (cI 1035)) ::
[])))
(.exit 0))
(.seq
(.keep [0, 4, 5, 6, 7, 8, 9, 10]
(.regD ((oM 23 0, []) ::
(oM 24 6, [0]) ::
(oD 25 (.slice 6 (.t 23) none (some (.t 24)) none), []) ::
(oD 26 (.load (some 6) (.t 7)), [0, 0, 0]) ::
(oD 27 (.call false (.f 80) [(.t 25), (.t 26)]), []) ::
(oD 28 (.un .not (.t 27)), []) ::
(oM 22 28, []) ::
[])))
(.cond (.t 22)
(.seq
(.keep [6]
(.reg (oM 29 6 ::
oM 4 29 ::
oD 5 (.mov (cI 1034)) ::
[])))
(.exit 0))
.skip)))))))
(.keep [0, 4, 5, 8, 9, 10]
(.reg (oD 30 (.bin .add (.t 10) (cI 1)) ::
oM 10 30 ::
[])))))))))
(.seq
(.keep [4, 5]
(.reg (oM 31 4 ::
oM 32 5 ::
oM 2 31 ::
oM 3 32 ::
[])))
.ret))))))
def rd_need_Check : List RD := [.tmp 2 true none, .tmp 3 true none]
theorem ok_need_Check : fnOk Tryd.prog Tryd.f53 ir_need_Check rd_need_Check = true := by kernel_rfl
def S_need_Check : List AV → List Obj → Option (Prop × AV)
  | [.imm (.cons (.int .i64) (.cons (.int .i64) (.cons .bool (.cons (.int .u64) (.cons (.sl (.int .u8)) (.cons (.sl (.int .u8)) .nil)))))) l], [] => some ((True, .tup [.int .i64 (ckS [] l).1, .int .i64 (ckS [] l).2]))
  | _, _ => none
theorem snd_need_Check : SoundS Tryd.prog 53 (RoF S_need_Check).sum := by
  refine ro_fn Tryd.func53 ok_need_Check (env_cons (s := RoF S_need_Check_1) snd_need_Check_1 (env_cons (s := RoF S_slices_ContainsFunc_api_Oxm_api_Oxm) snd_slices_ContainsFunc_api_Oxm_api_Oxm (env_cons (s := RoF S_need_Met) snd_need_Met (env_nil _)))) fun args objs p v e => ?_
  unfold S_need_Check at e
  split at e
  · rename_i l
    cases e
    refine ⟨rfl, fun hw ho hp => ?_⟩
    change List OV at l
    have hl : l.length ≤ maxLen := (hw (.imm (.cons (.int .i64) (.cons (.int .i64) (.cons .bool (.cons (.int .u64) (.cons (.sl (.int .u8)) (.cons (.sl (.int .u8)) .nil)))))) l) (by simp)).2
    unfold maxLen at hl
    clear hw ho
    repeat' (intro t ht; first | (cases t <;> first | (cases ht; done) | ((try simp only [bn_s] at ht); (try simp only [nd_s] at ht))) | (refine ht ?_ ?_ <;> clear ht) | (refine ht.1 ?_ ?_ <;> clear ht) | (refine ht ?_; clear ht))
    all_goals first
      | (intro r h1 h2; clear h1; refine h2 ⟨[0, 4, 5, 8, 9, 10], Nat, (fun i => i ≤ l.length ∧ ckS [] l = ckS (l.take i) (l.drop i)), fun i => [.imm (.cons (.int .i64) (.cons (.int .i64) (.cons .bool (.cons (.int .u64) (.cons (.sl (.int .u8)) (.cons (.sl (.int .u8)) .nil)))))) l, .int .i64 0, .int .i64 0, .imm (.cons (.int .i64) (.cons (.int .i64) (.cons .bool (.cons (.int .u64) (.cons (.sl (.int .u8)) (.cons (.sl (.int .u8)) .nil)))))) l, .int .i64 l.length, .int .i64 i], fun _ => [], fun i => l.length - i, ⟨0, ⟨Nat.zero_le _, rfl⟩, rfl, rfl⟩, ?_⟩; clear h2)
    rintro i ⟨hi, he⟩
    repeat' (intro t ht; first | (cases t <;> first | (cases ht; done) | ((try simp only [bn_s] at ht); (try simp only [nd_s] at ht); (try (exfalso; first | contradiction | omega)))) | (refine ht ?_ ?_ <;> clear ht) | (refine ht.1 ?_ ?_ <;> clear ht) | (refine ht ?_; clear ht))
    all_goals (try generalize (Ty.dflt (.cons (.int .i64) (.cons (.int .i64) (.cons .bool (.cons (.int .u64) (.cons (.sl (.int .u8)) (.cons (.sl (.int .u8)) .nil))))))) = od at *)
    all_goals first
      | exact True.intro
      | ((try simp only [nd_s, bn_s, mm_s] at *); omega)
      | (rw [he, ckS_end (by omega)]; exact ⟨rfl, rfl⟩)
      | (have hk : (l.take i).any (fun x => alO x (l.getD i od)) = true := by assumption
         rw [he, ckS_two (by omega) hk]; exact ⟨rfl, rfl⟩)
      | (have hk : (l.take i).any (fun x => alO x (l.getD i od)) = false := by assumption
         first
           | (have hm : metO (l.take i) (l.getD i od).1 (l.getD i od).2.1 = false := by assumption
              rw [he, ckS_need (by omega) hk hm]; exact ⟨rfl, rfl⟩)
           | (have hm : metO (l.take i) (l.getD i od).1 (l.getD i od).2.1 = true := by assumption
              exact ⟨i + 1, ⟨by omega, he.trans (ckS_ok (by omega) hk hm)⟩, by dsimp only; omega, rfl, rfl⟩))
      | trace_state
  · cases e
def mrV (nd : Int) (vals : List Int) (c f : Int) (h : Bool) (v : List Int) : Bool := decide (c = 32768) && decide (f = nd) && (if vals.length = 0 then v.any nzB else vals.any fun y => !h && decide (v = bytesN y (sizeR nd)))
def mrO (nd : Int) (vals : List Int) (o : OV) : Bool := mrV nd vals o.1 o.2.1 o.2.2.1 o.2.2.2.2.1
theorem mr_empty {nd : Int} {vals : List Int} {o : OV} (hv : vals.length = 0) (h1 : o.1 = 32768) (h2 : o.2.1 = nd) : mrO nd vals o = o.2.2.2.2.1.any nzB := by
  unfold mrO mrV; rw [if_pos hv, h1, h2]; simp
theorem mr_vals {nd S : Int} {vals : List Int} {o : OV} (hv : ¬ vals.length = 0) (h1 : o.1 = 32768) (h2 : o.2.1 = nd) (hS : sizeR nd = S) : mrO nd vals o = vals.any fun y => !o.2.2.1 && decide (o.2.2.2.2.1 = bytesN y S) := by
  unfold mrO mrV; rw [if_neg hv, h1, h2, hS]; simp
theorem nz_f {v : List Int} {k : Nat} (h : v.getD k 0 = 0) : nzB (v.getD k 0) = false := by unfold nzB; rw [h]; rfl
theorem nz_t {v : List Int} {k : Nat} (h : ¬ v.getD k 0 = 0) : nzB (v.getD k 0) = true := decide_eq_true h
theorem numW_eq {v : List Int} (hb : ∀ x ∈ v, 0 ≤ x ∧ x ≤ 255) (h : v.length ≤ 8) : numW v = numL v := by
  have key : ∀ i, i ≤ v.length → numW (v.take i) = numT v i := by
    intro i
    induction i with
    | zero => intro _; rfl
    | succ i ih =>
      intro hi
      have hk := hb _ (getD_mem' (α := Int) (show i < v.length by omega) 0)
      have hn := numT_le hb i (by omega)
      have e8 : (2 : Int) ^ min (Int.toNat 8) IntKind.u64.bits = 256 := by decide
      rw [numW_step (by omega), numT_step (by omega), ih (by omega), e8, wrap_id ⟨by rw [min_u64]; omega, by rw [max_u64]; omega⟩, wrap_id ⟨by rw [min_u64]; omega, by rw [max_u64]; omega⟩]
      exact or_byte hn.1 (by omega) hk.1 hk.2
  have := key v.length (Nat.le_refl _)
  rwa [List.take_length, numT_end (Nat.le_refl _)] at this
def valOk (k : Nat) : Bool := decide ((fVals (k : Nat)).length = 0) || ((fVals (k : Nat)).all fun y => decide (0 ≤ y) && decide (y ≤ 65535) && (decide (sizeR (fNeed (k : Nat)) = 2) || (decide (sizeR (fNeed (k : Nat)) = 1) && decide (y ≤ 255))))
theorem valK : ∀ k < 40, fNeed (k : Nat) = needR (k : Nat) ∧ fVals (k : Nat) = valsR (k : Nat) ∧ valOk k = true := by decide +kernel
theorem law9 (f : Int) : fNeed f = needR f ∧ fVals f = valsR f ∧ ∀ y ∈ fVals f, 0 ≤ y ∧ y ≤ 65535 ∧ (sizeR (fNeed f) = 2 ∨ (sizeR (fNeed f) = 1 ∧ y ≤ 255)) := by
  cases h : fIs f with
  | true =>
    have hn := fIs_t.1 h
    have := valK f.toNat (by omega)
    unfold valOk at this
    rw [Int.toNat_of_nonneg hn.1] at this
    refine ⟨this.1, this.2.1, fun y hy => ?_⟩
    have h3 := this.2.2
    rw [Bool.or_eq_true] at h3
    rcases h3 with h3 | h3
    · have : fVals f = [] := List.eq_nil_of_length_eq_zero (of_decide_eq_true h3)
      rw [this] at hy; cases hy
    · have := List.all_eq_true.1 h3 y hy
      simp only [Bool.and_eq_true, Bool.or_eq_true, decide_eq_true_eq] at this
      exact ⟨this.1.1, this.1.2, this.2⟩
  | false =>
    unfold fNeed fVals needR valsR; rw [h]; exact ⟨rfl, rfl, fun y hy => by cases hy⟩
theorem val_eq {v : List Int} {y z : Int} (hb : ∀ x ∈ v, 0 ≤ x ∧ x ≤ 255) (hy : 0 ≤ y ∧ y ≤ 65535 ∧ (z = 2 ∨ (z = 1 ∧ y ≤ 255))) : decide (v = bytesN y z) = (decide ((v.length : Int) = z) && decide (numW v = y)) := by
  rw [Bool.eq_iff_iff]
  simp only [Bool.and_eq_true, decide_eq_true_eq]
  obtain ⟨h1, h2, h3⟩ := hy
  have hn : numL (bytesN y z) = y := by
    rcases h3 with rfl | ⟨rfl, h3⟩
    · exact num2 ⟨h1, h2⟩
    · rw [byte1 ⟨h1, h3⟩]; show 0 * 256 + y = y; omega
  have hz : (bytesN y z).length = z := bytesN_len (by omega)
  constructor
  · intro e
    have hl : (v.length : Int) = z := by rw [e]; exact hz
    exact ⟨hl, by rw [numW_eq hb (by omega), e]; exact hn⟩
  · rintro ⟨e1, e2⟩
    rw [numW_eq hb (by omega)] at e2
    have := bytesN_numL v.length v (by omega) rfl hb
    rw [e2, e1] at this; exact this.symm
theorem met_law {k : Int} {o : OV} (hb : ∀ x ∈ o.2.2.2.2.1, 0 ≤ x ∧ x ≤ 255) : mrO (fNeed k) (fVals k) o = mtO (fNeed k) (fVals k) o := by
  obtain ⟨_, _, h3⟩ := law9 k
  have hs : fSize (fNeed k) = sizeR (fNeed k) := (law8 (fNeed k)).2.1
  unfold mrO mtO mrV metV
  congr 1
  by_cases hv : (fVals k).length = 0
  · rw [if_pos hv, if_pos hv]
  · rw [if_neg hv, if_neg hv, hs]
    have : ∀ l : List Int, (∀ y ∈ l, 0 ≤ y ∧ y ≤ 65535 ∧ (sizeR (fNeed k) = 2 ∨ (sizeR (fNeed k) = 1 ∧ y ≤ 255))) → (l.any fun y => !o.2.2.1 && decide (o.2.2.2.2.1 = bytesN y (sizeR (fNeed k)))) = (decide ((o.2.2.2.2.1.length : Int) = sizeR (fNeed k)) && !o.2.2.1 && l.any fun y => decide (numW o.2.2.2.2.1 = y)) := by
      intro l
      induction l with
      | nil => intro _; simp
      | cons y l ih =>
        intro h
        rw [List.any_cons, List.any_cons, ih fun y hy => h y (List.mem_cons_of_mem _ hy), val_eq hb (h y (List.mem_cons_self ..))]
        cases o.2.2.1 <;> cases decide ((o.2.2.2.2.1.length : Int) = sizeR (fNeed k)) <;> cases decide (numW o.2.2.2.2.1 = y) <;> simp
    exact this _ h3
def bysO (o : OV) : Prop := 0 ≤ o.2.2.2.1 ∧ (∀ x ∈ o.2.2.2.2.1, 0 ≤ x ∧ x ≤ 255) ∧ (∀ x ∈ o.2.2.2.2.2.1, 0 ≤ x ∧ x ≤ 255)
theorem oxm_wf {l : List OV} (h : Ty.wf (.sl (.cons (.int .i64) (.cons (.int .i64) (.cons .bool (.cons (.int .u64) (.cons (.sl (.int .u8)) (.cons (.sl (.int .u8)) .nil))))))) l) : ∀ o ∈ l, bysO o := fun o ho => by
  obtain ⟨h1, h2, h3, h4, h5, h6, _⟩ := h.1 o ho
  refine ⟨?_, fun x hx => ?_, fun x hx => ?_⟩
  · unfold Ty.wf inK at h4; rw [min_u64] at h4; exact h4.1
  · have := h5.1 x hx; unfold Ty.wf inK at this; rw [min_u8, max_u8] at this; exact this
  · have := h6.1 x hx; unfold Ty.wf inK at this; rw [min_u8, max_u8] at this; exact this
end Go.Eng
