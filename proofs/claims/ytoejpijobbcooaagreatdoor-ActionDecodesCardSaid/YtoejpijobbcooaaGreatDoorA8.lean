/- Contracts of functions of the given program, told by plain Lean functions. No condition. -/
import Derived.Test.YtoejpijobbcooaaGreatDoorProg
import Derived.Test.YtoejpijobbcooaaGreatDoorEArg
import Derived.KernelRfl
import Derived.Test.YtoejpijobbcooaaGreatDoorA7
namespace Go.Eng
open Go.Proofs
set_option linter.unusedVariables false
set_option linter.unusedSimpArgs false
set_option maxRecDepth 100000
set_option maxHeartbeats 1000000
theorem getA_bad : ∀ (w b o : List Int), (getA w b o).2 ≠ 0 → (getA w b o).1 = []
  | [], b, o, h => absurd rfl h
  | n :: r, b, o, h => by
    simp only [getA] at h ⊢
    split at h
    · rename_i c; rw [if_pos c]
    · rename_i c
      rw [if_neg c]
      split at h
      · rename_i c2; rw [if_pos c2]; exact getA_bad r _ _ h
      · rename_i c2
        rw [if_neg c2]
        split at h
        · rename_i c3; rw [if_pos c3]; exact getA_bad r _ _ h
        · rename_i c3; rw [if_neg c3]
theorem getL_bad {w b : List Int} (h : getK w b ≠ 0) : getL w b = [] := by
  unfold getK getF at h; unfold getL getF
  split at h
  · rename_i c; rw [if_pos c]; exact getA_bad _ _ _ h
  · rename_i c; rw [if_neg c]
theorem getL_cnt {w b : List Int} (hb : ∀ x ∈ b, 0 ≤ x ∧ x ≤ 255) (h : getK w b = 0) : ((getL w b).length : Int) = countW w := by
  obtain ⟨p1, _, _⟩ := getF_putF hb (show getF w b = (getL w b, 0) from Prod.ext rfl h)
  unfold putK at p1
  obtain ⟨r, hr⟩ := Option.isSome_iff_exists.1 p1
  unfold putF at hr
  split at hr
  · rename_i h; exact h.2.symm
  · cases hr
def plA (q : Int) (y : List Int) (k : Nat) : Int := if ¬ q = 65535 ∧ ¬ (y.length : Int) = sizeW (rowT q) then 0 else (getL (rowT q) y).getD k 0
def plD (q : Int) (y : List Int) : List Int := if plE q y = 0 then y.drop (sizeW (rowT q)).toNat else []
theorem askF0 (t : Int) (h : ¬ t = 0) : askF t 0 = 0 ∨ askF t 0 = 518 := by
  unfold askF; rw [if_neg h]; repeat' split
  all_goals first | exact .inl rfl | exact .inr rfl | omega
def ir_action_plain : IR :=
(.seq
(.keep [0, 1, 2]
(.reg (⟨some 3, .boxv (.t 0), none⟩ ::
⟨some 6, .box [.int .i64 0, .int .u64 0, .int .u64 0, .int .i64 0, .int .i64 0, .kb false, .int .u64 0, .imm (.int .u8) [], .imm (.int .u8) [], .imm (.int .u8) []], none⟩ ::
⟨some 7, .mov (.c (.int .i64 0)), none⟩ ::
[])))
(.seq
(.seq
(.keep [1, 2, 3, 6]
(.reg (⟨some 11, .fieldAddr 0 (.t 3), none⟩ ::
⟨some 12, .load none (.t 11), none⟩ ::
⟨some 13, .bin .neq (.t 12) (.c (.int .i64 65535)), none⟩ ::
⟨some 14, .mov (.t 13), none⟩ ::
⟨some 15, .mov (.t 2), some (14, true)⟩ ::
⟨some 16, .len (.t 15), some (14, true)⟩ ::
⟨some 17, .mov (.t 1), some (14, true)⟩ ::
⟨some 18, .call false (.f 50) [(.t 17)], some (14, true)⟩ ::
⟨some 19, .bin .neq (.t 16) (.t 18), some (14, true)⟩ ::
⟨some 20, .pick (.t 14) (.t 19) (.c (.kb false)), none⟩ ::
[])))
(.cond (.t 20)
(.seq
(.keep [3, 6]
(.reg (⟨some 21, .load (some 10) (.t 3), none⟩ ::
⟨none, .store 10 (.t 6) (.t 21), none⟩ ::
⟨some 7, .mov (.c (.int .i64 514)), none⟩ ::
[])))
.ret)
.skip))
(.seq
(.keep [1, 2, 3, 6]
(.reg (⟨some 22, .mov (.t 2), none⟩ ::
⟨some 23, .call false (.f 29) [(.t 22), (.c (.int .i64 514)), (.c (.int .i64 518))], none⟩ ::
⟨some 8, .mov (.t 23), none⟩ ::
[])))
(.seq
(.seq
(.keep [1, 3, 6, 8]
(.reg (⟨some 24, .mov (.t 8), none⟩ ::
⟨some 25, .mov (.t 1), none⟩ ::
⟨some 26, .call false (.f 74) [(.t 24), (.t 25)], none⟩ ::
⟨some 27, .len (.t 26), none⟩ ::
⟨some 28, .mov (.c (.int .i64 0)), none⟩ ::
[])))
(.block 0
(.loop
(.seq
(.keep [3, 6, 8, 26, 27, 28]
(.reg (⟨some 29, .bin .lss (.t 28) (.t 27), none⟩ ::
[])))
(.seq
(.cond (.t 29)
.skip
(.exit 0))
(.seq
(.block 1
(.seq
(.keep [3, 6, 8, 26, 27, 28]
(.reg (⟨some 30, .mov (.t 28), none⟩ ::
⟨some 31, .indexSl 1 (.t 26) (.t 28), none⟩ ::
⟨some 32, .load none (.t 31), none⟩ ::
⟨some 9, .mov (.t 30), none⟩ ::
⟨some 10, .mov (.t 32), none⟩ ::
[])))
(.seq
(.reg (⟨some 33, .mov (.t 9), none⟩ ::
⟨some 34, .bin .eql (.t 33) (.c (.int .i64 0)), none⟩ ::
[]))
(.cond (.t 34)
(.keep [3, 6, 8, 10, 26, 27, 28]
(.reg (⟨some 35, .mov (.t 10), none⟩ ::
⟨some 36, .fieldAddr 1 (.t 3), none⟩ ::
⟨none, .store 1 (.t 36) (.t 35), none⟩ ::
[])))
(.keep [3, 6, 8, 10, 26, 27, 28]
(.reg (⟨some 37, .mov (.t 10), none⟩ ::
⟨some 38, .fieldAddr 2 (.t 3), none⟩ ::
⟨none, .store 1 (.t 38) (.t 37), none⟩ ::
[])))))))
(.keep [3, 6, 8, 26, 27, 28]
(.reg (⟨some 39, .bin .add (.t 28) (.c (.int .i64 1)), none⟩ ::
⟨some 28, .mov (.t 39), none⟩ ::
[])))))))))
(.seq
(.keep [3, 6, 8]
(.reg (⟨some 40, .mov (.t 8), none⟩ ::
⟨some 41, .fieldAddr 0 (.t 3), none⟩ ::
⟨some 42, .load none (.t 41), none⟩ ::
⟨some 43, .fieldAddr 1 (.t 3), none⟩ ::
⟨some 44, .load none (.t 43), none⟩ ::
⟨some 45, .call false (.f 47) [(.t 42), (.t 44)], none⟩ ::
⟨some 46, .call false (.f 81) [(.t 40), (.t 45)], none⟩ ::
[])))
(.seq
(.keep [3, 6, 8]
(.reg (⟨some 47, .mov (.t 8), none⟩ ::
⟨some 48, .call false (.f 103) [(.t 47)], none⟩ ::
⟨some 49, .fieldAddr 9 (.t 3), none⟩ ::
⟨none, .store 1 (.t 49) (.t 48), none⟩ ::
[])))
(.seq
(.regD ((⟨some 50, .load (some 10) (.t 3), none⟩, []) ::
(⟨some 51, .mov (.t 8), none⟩, [0]) ::
(⟨some 52, .call false (.f 33) [(.t 51)], none⟩, [1]) ::
(⟨none, .store 10 (.t 6) (.t 50), none⟩, []) ::
(⟨some 7, .mov (.t 52), none⟩, []) ::
[]))
.ret)))))))
def rd_action_plain : List RD := [.cell 6 (some 10) true [], .tmp 7 true none]
theorem ok_action_plain : fnOk Tryz.prog Tryz.f53 ir_action_plain rd_action_plain = true := by kernel_rfl
def S_action_plain : List AV → List Obj → Option (Prop × AV)
  | [.agg [.int .i64 q, .int .u64 0, .int .u64 0, .int .i64 c, .int .i64 f, .bool h, .int .u64 x, .imm (.int .u8) v, .imm (.int .u8) m, .imm (.int .u8) ([])], .imm (.int .i64) w, .imm (.int .u8) y], [] => some ((w = rowT q ∧ y.length ≤ 1000000, .tup [.agg [.int .i64 q, .int .u64 (plA q y 0), .int .u64 (plA q y 1), .int .i64 c, .int .i64 f, .bool h, .int .u64 x, .imm (.int .u8) v, .imm (.int .u8) m, .imm (.int .u8) (plD q y)], .int .i64 (plE q y)]))
  | _, _ => none
theorem snd_action_plain : SoundS Tryz.prog 53 (RoF S_action_plain).sum := by
  refine ro_fn Tryz.func53 ok_action_plain (env_cons (s := RoF S_row_Size) snd_row_Size (env_cons (s := RwF S_cursor_New) snd_cursor_New (env_cons (s := RwF S_cursor_Cursor_Row) snd_cursor_Cursor_Row (env_cons (s := RoF S_action_asked) snd_action_asked (env_cons (s := RwF S_cursor_Cursor_Fail) snd_cursor_Cursor_Fail (env_cons (s := RwF S_cursor_Cursor_Rest) snd_cursor_Cursor_Rest (env_cons (s := RoF S_cursor_Cursor_Err) snd_cursor_Cursor_Err (env_nil _)))))))) fun args objs p v e => ?_
  unfold S_action_plain at e
  split at e
  · rename_i q c f h x v m w y
    cases e
    refine ⟨rfl, fun hw ho hp => ?_⟩
    change List Int at v
    change List Int at m
    change List Int at w
    change List Int at y
    have hyb : ∀ x ∈ (y : List Int), (0 : Int) ≤ x ∧ x ≤ 255 := fun x hx => (hw (.imm (.int .u8) y) (by simp)).1 x hx
    clear hw ho
    obtain ⟨rfl, hy⟩ := hp
    have hz := siz_le q
    have hcn := cnt_le q
    have hd0 : y.drop (0 : Int).toNat = y := rfl
    have hf0 : ∀ e, failE 0 e = e := fun e => if_pos rfl
    by_cases hm : ¬ q = 65535 ∧ ¬ (y.length : Int) = sizeW (rowT q)
    · have e1 : plE q y = 514 := if_pos hm
      have e2 : ∀ k, plA q y k = 0 := fun k => if_pos hm
      have e3 : plD q y = [] := by unfold plD; rw [e1]; rfl
      rw [e1, e2, e2, e3]
      repeat' (intro t ht; first | (cases t <;> first | (cases ht; done) | ((try simp only [Bool.not_eq_eq_eq_not, Bool.not_true, Bool.not_false, Bool.and_eq_true, Bool.and_eq_false_iff, decide_eq_true_eq, decide_eq_false_iff_not] at ht); (try simp only [Int.toNat_natCast, dflt_int] at ht); (try (exfalso; first | contradiction | omega)))) | (refine ht ?_ ?_ <;> clear ht) | (refine ht.1 ?_ ?_ <;> clear ht) | (refine ht ?_; clear ht))
      all_goals first
        | exact True.intro
        | omega
        | exact ⟨rfl, rfl⟩
        | trace_state
    · have e2 : ∀ k, plA q y k = (getL (rowT q) y).getD k 0 := fun k => if_neg hm
      have e1 : plE q y = if getK (rowT q) y = 1 then 514 else if getK (rowT q) y = 2 then 518 else askF q ((getL (rowT q) y).getD 0 0) := if_neg hm
      have hcL : curL (rowT q) y 0 0 = getL (rowT q) y := by unfold curL; rw [if_pos rfl, hd0]
      have hcE : curE (rowT q) y 0 514 518 0 = if getK (rowT q) y = 1 then 514 else if getK (rowT q) y = 2 then 518 else 0 := by unfold curE; rw [if_pos rfl, hd0]
      have hcP : curP (rowT q) y 0 0 = if getK (rowT q) y = 1 then 0 else if getK (rowT q) y = 2 then 0 else 0 + sizeW (rowT q) := by unfold curP; rw [if_pos rfl, hd0]
      by_cases hK0 : getK (rowT q) y = 0
      · have hl := getL_cnt hyb hK0
        rw [hK0, if_neg (by decide), if_neg (by decide)] at hcE hcP e1
        unfold plD
        rw [e1, e2, e2]
        have hsz : sizeW (rowT q) ≤ y.length := by
          have hpf := getF_putF hyb (show getF (rowT q) y = (getL (rowT q) y, 0) from Prod.ext rfl hK0)
          have := putB_size hpf.1
          rw [hpf.2.1, List.length_take] at this
          omega
        rcases hL : getL (rowT q) y with _ | ⟨u, _ | ⟨w, _ | ⟨w2, r2⟩⟩⟩
        · rw [hL] at hcL hl e1
          repeat' (intro t ht; first | (cases t <;> first | (cases ht; done) | ((try simp only [Bool.not_eq_eq_eq_not, Bool.not_true, Bool.not_false, Bool.and_eq_true, Bool.and_eq_false_iff, decide_eq_true_eq, decide_eq_false_iff_not] at ht); (try simp only [Int.toNat_natCast, dflt_int] at ht); (try (exfalso; first | contradiction | omega)))) | (refine ht ?_ ?_ <;> clear ht) | (refine ht.1 ?_ ?_ <;> clear ht) | (refine ht ?_; clear ht))
          all_goals (try simp only [hcL, hcE, hcP] at *)
          all_goals first
            | exact True.intro
            | omega
            | exact ⟨by omega, by omega, by omega⟩
            | (intro r h1 h2; refine h1 ⟨1, ?_⟩; clear h1 h2)
            | trace_state
          all_goals repeat' (intro t ht; first | (cases t <;> first | (cases ht; done) | ((try simp only [Bool.not_eq_eq_eq_not, Bool.not_true, Bool.not_false, Bool.and_eq_true, Bool.and_eq_false_iff, decide_eq_true_eq, decide_eq_false_iff_not] at ht); (try simp only [Int.toNat_natCast, dflt_int] at ht); (try (exfalso; first | contradiction | omega)))) | (refine ht ?_ ?_ <;> clear ht) | (refine ht.1 ?_ ?_ <;> clear ht) | (refine ht ?_; clear ht))
          all_goals (try simp only [hcL, hcE, hcP, List.getD_cons_zero, List.getD_cons_succ, List.getD_nil] at *)
          all_goals first
            | exact True.intro
            | omega
            | ((try simp only [Int.toNat_natCast, dflt_int, decide_eq_true_eq, decide_eq_false_iff_not, Bool.not_eq_eq_eq_not, Bool.not_true, Bool.not_false, Bool.and_eq_true, Bool.and_eq_false_iff, min_i64, max_i64, min_u64, max_u64, min_u32, max_u32, min_u16, max_u16, min_u8, max_u8] at *); omega)
            | exact ⟨by omega, by omega, by omega, by decide⟩
            | (refine ⟨?_, by first | rfl | exact True.intro⟩; simp only [hf0, Int.zero_add]; rfl)
            | trace_state
        · rw [hL] at hcL hl e1
          repeat' (intro t ht; first | (cases t <;> first | (cases ht; done) | ((try simp only [Bool.not_eq_eq_eq_not, Bool.not_true, Bool.not_false, Bool.and_eq_true, Bool.and_eq_false_iff, decide_eq_true_eq, decide_eq_false_iff_not] at ht); (try simp only [Int.toNat_natCast, dflt_int] at ht); (try (exfalso; first | contradiction | omega)))) | (refine ht ?_ ?_ <;> clear ht) | (refine ht.1 ?_ ?_ <;> clear ht) | (refine ht ?_; clear ht))
          all_goals (try simp only [hcL, hcE, hcP] at *)
          all_goals first
            | exact True.intro
            | omega
            | exact ⟨by omega, by omega, by omega⟩
            | (intro r h1 h2; refine h1 ⟨2, ?_⟩; clear h1 h2)
            | trace_state
          all_goals repeat' (intro t ht; first | (cases t <;> first | (cases ht; done) | ((try simp only [Bool.not_eq_eq_eq_not, Bool.not_true, Bool.not_false, Bool.and_eq_true, Bool.and_eq_false_iff, decide_eq_true_eq, decide_eq_false_iff_not] at ht); (try simp only [Int.toNat_natCast, dflt_int] at ht); (try (exfalso; first | contradiction | omega)))) | (refine ht ?_ ?_ <;> clear ht) | (refine ht.1 ?_ ?_ <;> clear ht) | (refine ht ?_; clear ht))
          all_goals (try simp only [hcL, hcE, hcP, List.getD_cons_zero, List.getD_cons_succ, List.getD_nil] at *)
          all_goals first
            | exact True.intro
            | omega
            | ((try simp only [Int.toNat_natCast, dflt_int, decide_eq_true_eq, decide_eq_false_iff_not, Bool.not_eq_eq_eq_not, Bool.not_true, Bool.not_false, Bool.and_eq_true, Bool.and_eq_false_iff, min_i64, max_i64, min_u64, max_u64, min_u32, max_u32, min_u16, max_u16, min_u8, max_u8] at *); omega)
            | exact ⟨by omega, by omega, by omega, by decide⟩
            | (refine ⟨?_, by first | rfl | exact True.intro⟩; simp only [hf0, Int.zero_add]; rfl)
            | trace_state
        · rw [hL] at hcL hl e1
          repeat' (intro t ht; first | (cases t <;> first | (cases ht; done) | ((try simp only [Bool.not_eq_eq_eq_not, Bool.not_true, Bool.not_false, Bool.and_eq_true, Bool.and_eq_false_iff, decide_eq_true_eq, decide_eq_false_iff_not] at ht); (try simp only [Int.toNat_natCast, dflt_int] at ht); (try (exfalso; first | contradiction | omega)))) | (refine ht ?_ ?_ <;> clear ht) | (refine ht.1 ?_ ?_ <;> clear ht) | (refine ht ?_; clear ht))
          all_goals (try simp only [hcL, hcE, hcP] at *)
          all_goals first
            | exact True.intro
            | omega
            | exact ⟨by omega, by omega, by omega⟩
            | (intro r h1 h2; refine h1 ⟨3, ?_⟩; clear h1 h2)
            | trace_state
          all_goals repeat' (intro t ht; first | (cases t <;> first | (cases ht; done) | ((try simp only [Bool.not_eq_eq_eq_not, Bool.not_true, Bool.not_false, Bool.and_eq_true, Bool.and_eq_false_iff, decide_eq_true_eq, decide_eq_false_iff_not] at ht); (try simp only [Int.toNat_natCast, dflt_int] at ht); (try (exfalso; first | contradiction | omega)))) | (refine ht ?_ ?_ <;> clear ht) | (refine ht.1 ?_ ?_ <;> clear ht) | (refine ht ?_; clear ht))
          all_goals (try simp only [hcL, hcE, hcP, List.getD_cons_zero, List.getD_cons_succ, List.getD_nil] at *)
          all_goals first
            | exact True.intro
            | omega
            | ((try simp only [Int.toNat_natCast, dflt_int, decide_eq_true_eq, decide_eq_false_iff_not, Bool.not_eq_eq_eq_not, Bool.not_true, Bool.not_false, Bool.and_eq_true, Bool.and_eq_false_iff, min_i64, max_i64, min_u64, max_u64, min_u32, max_u32, min_u16, max_u16, min_u8, max_u8] at *); omega)
            | exact ⟨by omega, by omega, by omega, by decide⟩
            | (refine ⟨?_, by first | rfl | exact True.intro⟩; simp only [hf0, Int.zero_add]; rfl)
            | trace_state
        · rw [hL] at hl; simp only [List.length_cons] at hl; omega
      · have hL := getL_bad hK0
        have hE : ∃ e, e ≠ 0 ∧ (if getK (rowT q) y = 1 then (514 : Int) else if getK (rowT q) y = 2 then 518 else 0) = e ∧ (if getK (rowT q) y = 1 then (514 : Int) else if getK (rowT q) y = 2 then 518 else askF q (([] : List Int).getD 0 0)) = e := by
          rcases getK_of (rowT q) y with h | h | h
          · exact absurd h hK0
          · rw [h]; exact ⟨514, by decide, rfl, rfl⟩
          · rw [h]; exact ⟨518, by decide, rfl, rfl⟩
        obtain ⟨e, he, h1, h2⟩ := hE
        rw [h1] at hcE; rw [hL] at hcL e1; rw [h2] at e1
        unfold plD
        rw [e1, e2, e2, hL, if_neg he]
        repeat' (intro t ht; first | (cases t <;> first | (cases ht; done) | ((try simp only [Bool.not_eq_eq_eq_not, Bool.not_true, Bool.not_false, Bool.and_eq_true, Bool.and_eq_false_iff, decide_eq_true_eq, decide_eq_false_iff_not] at ht); (try simp only [Int.toNat_natCast, dflt_int] at ht); (try (exfalso; first | contradiction | omega)))) | (refine ht ?_ ?_ <;> clear ht) | (refine ht.1 ?_ ?_ <;> clear ht) | (refine ht ?_; clear ht))
        all_goals (try simp only [hcL, hcE] at *)
        all_goals first
          | exact True.intro
          | omega
          | exact ⟨by omega, by omega, by omega⟩
          | (intro r h1 h2; refine h1 ⟨1, ?_⟩; clear h1 h2)
          | trace_state
        all_goals repeat' (intro t ht; first | (cases t <;> first | (cases ht; done) | ((try simp only [Bool.not_eq_eq_eq_not, Bool.not_true, Bool.not_false, Bool.and_eq_true, Bool.and_eq_false_iff, decide_eq_true_eq, decide_eq_false_iff_not] at ht); (try simp only [Int.toNat_natCast, dflt_int] at ht); (try (exfalso; first | contradiction | omega)))) | (refine ht ?_ ?_ <;> clear ht) | (refine ht.1 ?_ ?_ <;> clear ht) | (refine ht ?_; clear ht))
        all_goals (try simp only [hcL, hcE] at *)
        all_goals first
          | exact True.intro
          | omega
          | ((try simp only [Int.toNat_natCast, dflt_int, decide_eq_true_eq, decide_eq_false_iff_not, Bool.not_eq_eq_eq_not, Bool.not_true, Bool.not_false, Bool.and_eq_true, Bool.and_eq_false_iff, min_i64, max_i64, min_u64, max_u64, min_u32, max_u32, min_u16, max_u16, min_u8, max_u8] at *); omega)
          | (refine ⟨?_, by first | rfl | exact True.intro⟩; simp only [failE, if_neg he]; done)
          | (refine ⟨?_, by first | rfl | exact True.intro⟩; simp only [failE, if_neg he]; rfl)
          | trace_state
  · cases e
end Go.Eng
