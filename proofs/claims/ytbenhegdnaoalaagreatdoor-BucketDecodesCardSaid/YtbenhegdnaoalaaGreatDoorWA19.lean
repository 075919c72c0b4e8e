/- Parts of the proof: A7, A8, A9, H1. No condition. -/
import Derived.Test.YtbenhegdnaoalaaGreatDoorProg
import Derived.Test.YtbenhegdnaoalaaGreatDoorWA10
import Derived.KernelRfl
import Derived.Test.YtbenhegdnaoalaaGreatDoorWA18
import Derived.Test.YtbenhegdnaoalaaGreatDoorWA16
namespace Go.Eng
open Go.Proofs
set_option linter.unusedVariables false
set_option linter.unusedSimpArgs false
set_option maxRecDepth 100000
set_option maxHeartbeats 1000000
def ir_cursor_Cursor_Rest : IR :=
(.seq
(.keep [0]
(.reg (oD 2 (.mov (.c (.imm (.int .u8) []))) ::
[])))
(.seq
(.keep [0]
(.reg (oM 3 0 ::
oM 4 0 ::
oD 5 (.call false (.f 32) [(.t 4)]) ::
oD 6 (.call false (.f 29) [(.t 3), (.t 5)]) ::
oM 2 6 ::
[])))
.ret))
def rd_cursor_Cursor_Rest : List RD := [.tmp 2 true (some (.int .u8))]
theorem ok_cursor_Cursor_Rest : fnOk Tryz.prog Tryz.f162 ir_cursor_Cursor_Rest rd_cursor_Cursor_Rest = true := by kernel_rfl
def S_cursor_Cursor_Rest : List AV → List Obj → Option (Prop × AV × List Obj)
  | [.ptr 0 0], [.box [.imm (.int .u8) b, .int .i64 p, .int .i64 sh, .int .i64 od, .int .i64 e, .bool true]] => some ((0 ≤ p ∧ p ≤ b.length ∧ b.length ≤ 140737488355328 ∧ sh ≠ 0, .imm (.int .u8) (if e = 0 then b.drop p.toNat else []), [.box [.imm (.int .u8) b, .int .i64 ((if e = 0 then (b.length : Int) else p)), .int .i64 sh, .int .i64 od, .int .i64 e, .bool true]]))
  | _, _ => none
theorem snd_cursor_Cursor_Rest : SoundS Tryz.prog 162 (RwF S_cursor_Cursor_Rest).sum := by
  refine rw_fn Tryz.func162 ok_cursor_Cursor_Rest (env_cons (s := RoF S_cursor_Cursor_Left) snd_cursor_Cursor_Left (env_cons (s := RwF S_cursor_Cursor_Bytes) snd_cursor_Cursor_Bytes (env_nil _))) fun args objs p v o e => ?_
  unfold S_cursor_Cursor_Rest at e
  split at e
  · rename_i b p sh od e
    cases e
    refine ⟨rfl, fun hw ho hp => ?_⟩
    change List Int at b
    clear hw ho
    obtain ⟨h1, h2, h3, h4⟩ := hp
    have hE : takeE ((b.length : Int) - p) b p sh e = e := by unfold takeE; rw [if_neg (by omega), if_neg (by omega)]
    have hL : takeL ((b.length : Int) - p) b p sh e = if e = 0 then b.drop p.toNat else [] := by
      unfold takeL; rw [hE, show (p + ((b.length : Int) - p)).toNat = b.length by omega, List.take_length]
    have hP : takeP ((b.length : Int) - p) b p sh e = if e = 0 then (b.length : Int) else p := by
      unfold takeP; rw [hE, show p + ((b.length : Int) - p) = b.length by omega]
    repeat' (intro t ht; first | (cases t <;> first | (cases ht; done) | ((try simp only [bn_s] at ht); (try simp only [nd_s] at ht))) | (refine ht ?_ ?_ <;> clear ht) | (refine ht.1 ?_ ?_ <;> clear ht) | (refine ht ?_; clear ht))
    all_goals first
      | exact True.intro
      | exact ⟨h1, h2⟩
      | exact ⟨h1, h2, h3, h4⟩
      | (rw [hE, hL, hP]; exact ⟨rfl, rfl⟩)
      | trace_state
  · cases e
def ir_action_set : IR :=
(.seq
(.keep [0]
(.reg (oD 2 (.box [.int .i64 0, .int .i64 0, .kb false, .int .u64 0, .imm (.int .u8) [], .imm (.int .u8) []]) ::
oD 3 (.mov (cI 0)) ::
[])))
(.seq
(.keep [0, 2]
(.reg (oM 8 0 ::
oD 9 (.call false (.f 295) [(.t 8)]) ::
oM 7 9 ::
oD 10 (.extract (.t 7) 0) ::
oD 11 (.extract (.t 7) 1) ::
oD 12 (.extract (.t 7) 2) ::
oD 4 (.box [.int .i64 0, .int .i64 0, .kb false, .int .u64 0, .imm (.int .u8) [], .imm (.int .u8) []]) ::
oN (.store 6 (.t 4) (.t 10)) ::
oM 5 11 ::
oM 6 12 ::
[])))
(.seq
(.seq
(.keep [0, 2, 4, 5, 6]
(.reg (oM 13 6 ::
[])))
(.block 0
(.seq
(.reg (oD 16 (.bin .eql (.t 13) (cI 0)) ::
oM 15 16 ::
[]))
(.cond (.t 15)
.skip
(.seq
(.reg (oD 18 (.bin .eql (.t 13) (cI 1026)) ::
oM 17 18 ::
[]))
(.cond (.t 17)
(.seq
(.keep [2, 4]
(.reg (oD 19 (.load (some 6) (.t 4)) ::
oN (.store 6 (.t 2) (.t 19)) ::
oD 3 (.mov (cI 527)) ::
[])))
.ret)
(.seq
(.keep [2, 4, 13]
(.reg (oD 21 (.bin .eql (.t 13) (cI 1031)) ::
oM 20 21 ::
[])))
(.cond (.t 20)
(.seq
(.reg (oD 22 (.load (some 6) (.t 4)) ::
oN (.store 6 (.t 2) (.t 22)) ::
oD 3 (.mov (cI 526)) ::
[]))
.ret)
(.seq
(.reg (oD 14 (.load (some 6) (.t 4)) ::
oN (.store 6 (.t 2) (.t 14)) ::
oD 3 (.mov (cI 528)) ::
[]))
.ret)))))))))
(.seq
(.block 1
(.seq
(.keep [0, 2, 4, 5]
(.reg (oD 24 (.fieldAddr 0 (.t 4)) ::
oL 25 24 ::
oD 26 (.bin .neq (.t 25) (cI 32768)) ::
oM 27 26 ::
oF 27 28 (.fieldAddr 1 (.t 4)) ::
oF 27 29 (.load none (.t 28)) ::
oF 27 30 (.call false (.f 286) [(.t 29)]) ::
oF 27 31 (.un .not (.t 30)) ::
oD 32 (.pick (.t 27) cT (.t 31)) ::
oM 23 32 ::
[])))
(.cond (.t 23)
(.seq
(.keep [2, 4]
(.reg (oD 33 (.load (some 6) (.t 4)) ::
oN (.store 6 (.t 2) (.t 33)) ::
oD 3 (.mov (cI 526)) ::
[])))
.ret)
(.seq
(.keep [0, 2, 4, 5]
(.reg (oD 35 (.fieldAddr 2 (.t 4)) ::
oL 36 35 ::
oM 34 36 ::
[])))
(.cond (.t 34)
(.seq
(.reg (oD 37 (.load (some 6) (.t 4)) ::
oN (.store 6 (.t 2) (.t 37)) ::
oD 3 (.mov (cI 528)) ::
[]))
.ret)
(.seq
(.keep [0, 2, 4, 5]
(.reg (oM 39 0 ::
oD 40 (.len (.t 39)) ::
oM 41 5 ::
oD 42 (.bin .add (.t 41) (cI 8)) ::
oD 43 (.bin .geq (.t 40) (.t 42)) ::
oM 38 43 ::
[])))
(.cond (.t 38)
(.seq
(.keep [2, 4]
(.reg (oD 44 (.load (some 6) (.t 4)) ::
oN (.store 6 (.t 2) (.t 44)) ::
oD 3 (.mov (cI 527)) ::
[])))
.ret)
(.seq
(.keep [0, 2, 4, 5]
(.reg (oM 46 0 ::
oM 47 5 ::
oD 48 (.slice 1 (.t 46) (some (.t 47)) none none) ::
oD 49 (.call false (.f 133) [(.t 48), (.c (.str [0]))]) ::
oD 50 (.len (.t 49)) ::
oD 51 (.bin .gtr (.t 50) (cI 0)) ::
oM 45 51 ::
[])))
(.cond (.t 45)
(.seq
(.keep [2, 4]
(.reg (oD 52 (.load (some 6) (.t 4)) ::
oN (.store 6 (.t 2) (.t 52)) ::
oD 3 (.mov (cI 528)) ::
[])))
.ret)
.skip)))))))))
(.seq
(.keep [2, 4]
(.reg (oD 53 (.load (some 6) (.t 4)) ::
oN (.store 6 (.t 2) (.t 53)) ::
oD 3 (.mov (cI 0)) ::
[])))
.ret)))))
def rd_action_set : List RD := [.cell 2 (some 6) true [], .tmp 3 true none]
theorem ok_action_set : fnOk Tryz.prog Tryz.f284 ir_action_set rd_action_set = true := by kernel_rfl
def S_action_set : List AV → List Obj → Option (Prop × AV)
  | [.imm (.int .u8) b], [] => some ((b.length ≤ 140737488355328, .tup [.agg [.int .i64 (decI b (decC b)), .int .i64 (decI b (decF b)), .bool ((if decE b = 0 then decH b else false)), .int .u64 (decI b (decX b)), .imm (.int .u8) (decR b (decV b)), .imm (.int .u8) (decR b (decM b))], .int .i64 (setE b)]))
  | _, _ => none
theorem snd_action_set : SoundS Tryz.prog 284 (RoF S_action_set).sum := by
  refine ro_fn Tryz.func284 ok_action_set (env_cons (s := RoF S_oxm_Decode) snd_oxm_Decode (env_cons (s := RoF S_field_Settable) snd_field_Settable (env_cons (s := RoF S_bytes_Trim) snd_bytes_Trim (env_nil _)))) fun args objs p v e => ?_
  unfold S_action_set at e
  split at e
  · rename_i b
    cases e
    refine ⟨rfl, fun hw ho hp => ?_⟩
    change List Int at b
    have hb : ∀ x ∈ (b : List Int), (0 : Int) ≤ x ∧ x ≤ 255 := fun x hx => (hw (.imm (.int .u8) b) (by simp)).1 x hx
    clear hw ho
    by_cases h0 : decE b = 0
    · obtain ⟨E1, E2, E3, E4⟩ := enc_dec hb h0
      have htz := trim_zero (b.drop (decN b).toNat)
      have hS : setE b = if ¬ (decC b = 32768 ∧ settF (decF b) = true) then 526 else if decH b = true then 528 else if decN b + 8 ≤ b.length then 527 else if zeroL (b.drop (decN b).toNat) = true then 0 else 528 := if_pos h0
      repeat' (intro t ht; first | (cases t <;> first | (cases ht; done) | ((try simp only [bn_s] at ht); (try simp only [nd_s] at ht); (try (exfalso; first | contradiction | omega)))) | (refine ht ?_ ?_ <;> clear ht) | (refine ht.1 ?_ ?_ <;> clear ht) | (refine ht ?_; clear ht))
      all_goals (try simp only [decI, h0, if_true] at *)
      all_goals first
        | exact True.intro
        | exact hp
        | omega
        | ((try simp only [nd_s, bn_s, mm_s] at *); omega)
        | (rw [List.length_drop]; omega)
        | (exfalso; simp_all; done)
        | (refine ⟨congrArg (fun z => AV.tup [_, AV.int .i64 z]) ?_, by first | rfl | exact True.intro⟩; rw [hS]; clear hS; simp_all; done)
        | (refine ⟨?_, by first | rfl | exact True.intro⟩; rw [hS]; clear hS; simp_all; done)
        | (have hz : zeroL (b.drop (decN b).toNat) = true := by rw [← htz]; exact decide_eq_true (by omega)
           refine ⟨?_, by first | rfl | exact True.intro⟩; rw [hS]; clear hS; simp_all; done)
        | (have hz : zeroL (b.drop (decN b).toNat) = false := by rw [← htz]; exact decide_eq_false (by omega)
           refine ⟨?_, by first | rfl | exact True.intro⟩; rw [hS]; clear hS; simp_all; done)
        | trace_state
    · have hS : setE b = if decE b = 1026 then 527 else if decE b = 1031 then 526 else 528 := if_neg h0
      repeat' (intro t ht; first | (cases t <;> first | (cases ht; done) | ((try simp only [bn_s] at ht); (try simp only [nd_s] at ht); (try (exfalso; first | contradiction | omega)))) | (refine ht ?_ ?_ <;> clear ht) | (refine ht.1 ?_ ?_ <;> clear ht) | (refine ht ?_; clear ht))
      all_goals first
        | exact True.intro
        | exact hp
        | (exfalso; omega)
        | (refine ⟨congrArg (fun z => AV.tup [_, AV.int .i64 z]) ?_, by first | rfl | exact True.intro⟩; rw [hS]; clear hS; simp_all; done)
        | trace_state
  · cases e
def sameA (q a b c f : Int) (h : Bool) (x : Int) (v m d : List Int) (q' a' b' c' f' : Int) (h' : Bool) (x' : Int) (v' m' d' : List Int) : Bool := decide (q = q') && decide (a = a') && decide (b = b') && sameO c f h x v m c' f' h' x' v' m' && decide (d = d')
theorem same_selfA (q a b c f : Int) (h : Bool) (x : Int) (v m d : List Int) : sameA q a b c f h x v m d q a b c f h x v m d = true := by unfold sameA; rw [same_self]; simp
end Go.Eng
namespace Go.Eng
open Go.Proofs
set_option linter.unusedVariables false
set_option linter.unusedSimpArgs false
set_option maxRecDepth 100000
set_option maxHeartbeats 1000000
theorem getA_bad : ∀ (w b o : List Int), (getA w b o).2 ≠ 0 → (getA w b o).1 = []
  | [], b, o, h => absurd rfl h
  | n :: r, b, o, h => by
    simp only [getA] at h ⊢
    split at h
    · rename_i c; rw [if_pos c]
    · rename_i c
      rw [if_neg c]
      split at h
      · rename_i c2; rw [if_pos c2]; exact getA_bad r _ _ h
      · rename_i c2
        rw [if_neg c2]
        split at h
        · rename_i c3; rw [if_pos c3]; exact getA_bad r _ _ h
        · rename_i c3; rw [if_neg c3]
theorem getL_bad {w b : List Int} (h : getK w b ≠ 0) : getL w b = [] := by
  unfold getK getF at h; unfold getL getF
  split at h
  · rename_i c; rw [if_pos c]; exact getA_bad _ _ _ h
  · rename_i c; rw [if_neg c]
theorem getL_cnt {w b : List Int} (hb : ∀ x ∈ b, 0 ≤ x ∧ x ≤ 255) (h : getK w b = 0) : ((getL w b).length : Int) = countW w := by
  obtain ⟨p1, _, _⟩ := getF_putF hb (show getF w b = (getL w b, 0) from Prod.ext rfl h)
  unfold putK at p1
  obtain ⟨r, hr⟩ := Option.isSome_iff_exists.1 p1
  unfold putF at hr
  split at hr
  · rename_i h; exact h.2.symm
  · cases hr
def plA (q : Int) (y : List Int) (k : Nat) : Int := if ¬ q = 65535 ∧ ¬ (y.length : Int) = sizeW (rowT q) then 0 else (getL (rowT q) y).getD k 0
def plD (q : Int) (y : List Int) : List Int := if plE q y = 0 then y.drop (sizeW (rowT q)).toNat else []
def ir_action_plain : IR :=
(.seq
(.keep [0, 1, 2]
(.reg (oD 3 (.boxv (.t 0)) ::
oD 6 (.box [.int .i64 0, .int .u64 0, .int .u64 0, .int .i64 0, .int .i64 0, .kb false, .int .u64 0, .imm (.int .u8) [], .imm (.int .u8) [], .imm (.int .u8) []]) ::
oD 7 (.mov (cI 0)) ::
[])))
(.seq
(.seq
(.keep [1, 2, 3, 6]
(.reg (oD 11 (.fieldAddr 0 (.t 3)) ::
oL 12 11 ::
oD 13 (.bin .neq (.t 12) (cI 65535)) ::
oM 14 13 ::
oT 14 15 (.mov (.t 2)) ::
oT 14 16 (.len (.t 15)) ::
oT 14 17 (.mov (.t 1)) ::
oT 14 18 (.call false (.f 130) [(.t 17)]) ::
oT 14 19 (.bin .neq (.t 16) (.t 18)) ::
oD 20 (.pick (.t 14) (.t 19) cF) ::
[])))
(.cond (.t 20)
(.seq
(.keep [3, 6]
(.reg (oD 21 (.load (some 10) (.t 3)) ::
oN (.store 10 (.t 6) (.t 21)) ::
oD 7 (.mov (cI 514)) ::
[])))
.ret)
.skip))
(.seq
(.keep [1, 2, 3, 6]
(.reg (oM 22 2 ::
oD 23 (.call false (.f 28) [(.t 22), (cI 514), (cI 518)]) ::
oM 8 23 ::
[])))
(.seq
(.seq
(.keep [1, 3, 6, 8]
(.reg (oM 24 8 ::
oM 25 1 ::
oD 26 (.call false (.f 131) [(.t 24), (.t 25)]) ::
oD 27 (.len (.t 26)) ::
oD 28 (.mov (cI 0)) ::
[])))
(.block 0
(.loop
(.seq
(.keep [3, 6, 8, 26, 27, 28]
(.reg (oD 29 (.bin .lss (.t 28) (.t 27)) ::
[])))
(.seq
(.cond (.t 29)
.skip
(.exit 0))
(.seq
(.block 1
(.seq
(.keep [3, 6, 8, 26, 27, 28]
(.reg (oM 30 28 ::
oD 31 (.indexSl 1 (.t 26) (.t 28)) ::
oL 32 31 ::
oM 9 30 ::
oM 10 32 ::
[])))
(.seq
(.reg (oM 33 9 ::
oD 34 (.bin .eql (.t 33) (cI 0)) ::
[]))
(.cond (.t 34)
(.keep [3, 6, 8, 10, 26, 27, 28]
(.reg (oM 35 10 ::
oD 36 (.fieldAddr 1 (.t 3)) ::
oN (.store 1 (.t 36) (.t 35)) ::
[])))
(.keep [3, 6, 8, 10, 26, 27, 28]
(.reg (oM 37 10 ::
oD 38 (.fieldAddr 2 (.t 3)) ::
oN (.store 1 (.t 38) (.t 37)) ::
[])))))))
(.keep [3, 6, 8, 26, 27, 28]
(.reg (oD 39 (.bin .add (.t 28) (cI 1)) ::
oM 28 39 ::
[])))))))))
(.seq
(.keep [3, 6, 8]
(.reg (oM 40 8 ::
oD 41 (.fieldAddr 0 (.t 3)) ::
oL 42 41 ::
oD 43 (.fieldAddr 1 (.t 3)) ::
oL 44 43 ::
oD 45 (.call false (.f 269) [(.t 42), (.t 44)]) ::
oD 46 (.call false (.f 74) [(.t 40), (.t 45)]) ::
[])))
(.seq
(.keep [3, 6, 8]
(.reg (oM 47 8 ::
oD 48 (.call false (.f 162) [(.t 47)]) ::
oD 49 (.fieldAddr 9 (.t 3)) ::
oN (.store 1 (.t 49) (.t 48)) ::
[])))
(.seq
(.regD ((oD 50 (.load (some 10) (.t 3)), []) ::
(oM 51 8, [0]) ::
(oD 52 (.call false (.f 31) [(.t 51)]), [1]) ::
(oN (.store 10 (.t 6) (.t 50)), []) ::
(oM 7 52, []) ::
[]))
.ret)))))))
def rd_action_plain : List RD := [.cell 6 (some 10) true [], .tmp 7 true none]
theorem ok_action_plain : fnOk Tryz.prog Tryz.f285 ir_action_plain rd_action_plain = true := by kernel_rfl
def S_action_plain : List AV → List Obj → Option (Prop × AV)
  | [.agg [.int .i64 q, .int .u64 0, .int .u64 0, .int .i64 c, .int .i64 f, .bool h, .int .u64 x, .imm (.int .u8) v, .imm (.int .u8) m, .imm (.int .u8) ([])], .imm (.int .i64) w, .imm (.int .u8) y], [] => some ((w = rowT q ∧ y.length ≤ 1000000, .tup [.agg [.int .i64 q, .int .u64 (plA q y 0), .int .u64 (plA q y 1), .int .i64 c, .int .i64 f, .bool h, .int .u64 x, .imm (.int .u8) v, .imm (.int .u8) m, .imm (.int .u8) (plD q y)], .int .i64 (plE q y)]))
  | _, _ => none
theorem snd_action_plain : SoundS Tryz.prog 285 (RoF S_action_plain).sum := by
  refine ro_fn Tryz.func285 ok_action_plain (env_cons (s := RoF S_row_Size) snd_row_Size (env_cons (s := RwF S_cursor_New) snd_cursor_New (env_cons (s := RwF S_cursor_Cursor_Row) snd_cursor_Cursor_Row (env_cons (s := RoF S_action_asked) snd_action_asked (env_cons (s := RwF S_cursor_Cursor_Fail) snd_cursor_Cursor_Fail (env_cons (s := RwF S_cursor_Cursor_Rest) snd_cursor_Cursor_Rest (env_cons (s := RoF S_cursor_Cursor_Err) snd_cursor_Cursor_Err (env_nil _)))))))) fun args objs p v e => ?_
  unfold S_action_plain at e
  split at e
  · rename_i q c f h x v m w y
    cases e
    refine ⟨rfl, fun hw ho hp => ?_⟩
    change List Int at v
    change List Int at m
    change List Int at w
    change List Int at y
    have hyb : ∀ x ∈ (y : List Int), (0 : Int) ≤ x ∧ x ≤ 255 := fun x hx => (hw (.imm (.int .u8) y) (by simp)).1 x hx
    clear hw ho
    obtain ⟨rfl, hy⟩ := hp
    have hz := siz_le q
    have hcn := cnt_le q
    have hd0 : y.drop (0 : Int).toNat = y := rfl
    have hf0 : ∀ e, failE 0 e = e := fun e => if_pos rfl
    by_cases hm : ¬ q = 65535 ∧ ¬ (y.length : Int) = sizeW (rowT q)
    · have e1 : plE q y = 514 := if_pos hm
      have e2 : ∀ k, plA q y k = 0 := fun k => if_pos hm
      have e3 : plD q y = [] := by unfold plD; rw [e1]; rfl
      rw [e1, e2, e2, e3]
      repeat' (intro t ht; first | (cases t <;> first | (cases ht; done) | ((try simp only [bn_s] at ht); (try simp only [nd_s] at ht); (try (exfalso; first | contradiction | omega)))) | (refine ht ?_ ?_ <;> clear ht) | (refine ht.1 ?_ ?_ <;> clear ht) | (refine ht ?_; clear ht))
      all_goals first
        | exact True.intro
        | omega
        | exact ⟨rfl, rfl⟩
        | trace_state
    · have e2 : ∀ k, plA q y k = (getL (rowT q) y).getD k 0 := fun k => if_neg hm
      have e1 : plE q y = if getK (rowT q) y = 1 then 514 else if getK (rowT q) y = 2 then 518 else askF q ((getL (rowT q) y).getD 0 0) := if_neg hm
      have hcL : curL (rowT q) y 0 0 = getL (rowT q) y := by unfold curL; rw [if_pos rfl, hd0]
      have hcE : curE (rowT q) y 0 514 518 0 = if getK (rowT q) y = 1 then 514 else if getK (rowT q) y = 2 then 518 else 0 := by unfold curE; rw [if_pos rfl, hd0]
      have hcP : curP (rowT q) y 0 0 = if getK (rowT q) y = 1 then 0 else if getK (rowT q) y = 2 then 0 else 0 + sizeW (rowT q) := by unfold curP; rw [if_pos rfl, hd0]
      by_cases hK0 : getK (rowT q) y = 0
      · have hl := getL_cnt hyb hK0
        rw [hK0, if_neg (by decide), if_neg (by decide)] at hcE hcP e1
        unfold plD
        rw [e1, e2, e2]
        have hsz : sizeW (rowT q) ≤ y.length := by
          have hpf := getF_putF hyb (show getF (rowT q) y = (getL (rowT q) y, 0) from Prod.ext rfl hK0)
          have := putB_size hpf.1
          rw [hpf.2.1, List.length_take] at this
          omega
        rcases hL : getL (rowT q) y with _ | ⟨u, _ | ⟨w, _ | ⟨w2, r2⟩⟩⟩
        · rw [hL] at hcL hl e1
          repeat' (intro t ht; first | (cases t <;> first | (cases ht; done) | ((try simp only [bn_s] at ht); (try simp only [nd_s] at ht); (try (exfalso; first | contradiction | omega)))) | (refine ht ?_ ?_ <;> clear ht) | (refine ht.1 ?_ ?_ <;> clear ht) | (refine ht ?_; clear ht))
          all_goals (try simp only [hcL, hcE, hcP] at *)
          all_goals first
            | exact True.intro
            | omega
            | exact ⟨by omega, by omega, by omega⟩
            | (intro r h1 h2; refine h1 ⟨1, ?_⟩; clear h1 h2)
            | trace_state
          all_goals repeat' (intro t ht; first | (cases t <;> first | (cases ht; done) | ((try simp only [bn_s] at ht); (try simp only [nd_s] at ht); (try (exfalso; first | contradiction | omega)))) | (refine ht ?_ ?_ <;> clear ht) | (refine ht.1 ?_ ?_ <;> clear ht) | (refine ht ?_; clear ht))
          all_goals (try simp only [hcL, hcE, hcP, List.getD_cons_zero, List.getD_cons_succ, List.getD_nil] at *)
          all_goals first
            | exact True.intro
            | omega
            | ((try simp only [nd_s, bn_s, mm_s] at *); omega)
            | exact ⟨by omega, by omega, by omega, by decide⟩
            | (refine ⟨?_, by first | rfl | exact True.intro⟩; simp only [hf0, Int.zero_add]; rfl)
            | trace_state
        · rw [hL] at hcL hl e1
          repeat' (intro t ht; first | (cases t <;> first | (cases ht; done) | ((try simp only [bn_s] at ht); (try simp only [nd_s] at ht); (try (exfalso; first | contradiction | omega)))) | (refine ht ?_ ?_ <;> clear ht) | (refine ht.1 ?_ ?_ <;> clear ht) | (refine ht ?_; clear ht))
          all_goals (try simp only [hcL, hcE, hcP] at *)
          all_goals first
            | exact True.intro
            | omega
            | exact ⟨by omega, by omega, by omega⟩
            | (intro r h1 h2; refine h1 ⟨2, ?_⟩; clear h1 h2)
            | trace_state
          all_goals repeat' (intro t ht; first | (cases t <;> first | (cases ht; done) | ((try simp only [bn_s] at ht); (try simp only [nd_s] at ht); (try (exfalso; first | contradiction | omega)))) | (refine ht ?_ ?_ <;> clear ht) | (refine ht.1 ?_ ?_ <;> clear ht) | (refine ht ?_; clear ht))
          all_goals (try simp only [hcL, hcE, hcP, List.getD_cons_zero, List.getD_cons_succ, List.getD_nil] at *)
          all_goals first
            | exact True.intro
            | omega
            | ((try simp only [nd_s, bn_s, mm_s] at *); omega)
            | exact ⟨by omega, by omega, by omega, by decide⟩
            | (refine ⟨?_, by first | rfl | exact True.intro⟩; simp only [hf0, Int.zero_add]; rfl)
            | trace_state
        · rw [hL] at hcL hl e1
          repeat' (intro t ht; first | (cases t <;> first | (cases ht; done) | ((try simp only [bn_s] at ht); (try simp only [nd_s] at ht); (try (exfalso; first | contradiction | omega)))) | (refine ht ?_ ?_ <;> clear ht) | (refine ht.1 ?_ ?_ <;> clear ht) | (refine ht ?_; clear ht))
          all_goals (try simp only [hcL, hcE, hcP] at *)
          all_goals first
            | exact True.intro
            | omega
            | exact ⟨by omega, by omega, by omega⟩
            | (intro r h1 h2; refine h1 ⟨3, ?_⟩; clear h1 h2)
            | trace_state
          all_goals repeat' (intro t ht; first | (cases t <;> first | (cases ht; done) | ((try simp only [bn_s] at ht); (try simp only [nd_s] at ht); (try (exfalso; first | contradiction | omega)))) | (refine ht ?_ ?_ <;> clear ht) | (refine ht.1 ?_ ?_ <;> clear ht) | (refine ht ?_; clear ht))
          all_goals (try simp only [hcL, hcE, hcP, List.getD_cons_zero, List.getD_cons_succ, List.getD_nil] at *)
          all_goals first
            | exact True.intro
            | omega
            | ((try simp only [nd_s, bn_s, mm_s] at *); omega)
            | exact ⟨by omega, by omega, by omega, by decide⟩
            | (refine ⟨?_, by first | rfl | exact True.intro⟩; simp only [hf0, Int.zero_add]; rfl)
            | trace_state
        · rw [hL] at hl; simp only [List.length_cons] at hl; omega
      · have hL := getL_bad hK0
        have hE : ∃ e, e ≠ 0 ∧ (if getK (rowT q) y = 1 then (514 : Int) else if getK (rowT q) y = 2 then 518 else 0) = e ∧ (if getK (rowT q) y = 1 then (514 : Int) else if getK (rowT q) y = 2 then 518 else askF q (([] : List Int).getD 0 0)) = e := by
          rcases getK_of (rowT q) y with h | h | h
          · exact absurd h hK0
          · rw [h]; exact ⟨514, by decide, rfl, rfl⟩
          · rw [h]; exact ⟨518, by decide, rfl, rfl⟩
        obtain ⟨e, he, h1, h2⟩ := hE
        rw [h1] at hcE; rw [hL] at hcL e1; rw [h2] at e1
        unfold plD
        rw [e1, e2, e2, hL, if_neg he]
        repeat' (intro t ht; first | (cases t <;> first | (cases ht; done) | ((try simp only [bn_s] at ht); (try simp only [nd_s] at ht); (try (exfalso; first | contradiction | omega)))) | (refine ht ?_ ?_ <;> clear ht) | (refine ht.1 ?_ ?_ <;> clear ht) | (refine ht ?_; clear ht))
        all_goals (try simp only [hcL, hcE] at *)
        all_goals first
          | exact True.intro
          | omega
          | exact ⟨by omega, by omega, by omega⟩
          | (intro r h1 h2; refine h1 ⟨1, ?_⟩; clear h1 h2)
          | trace_state
        all_goals repeat' (intro t ht; first | (cases t <;> first | (cases ht; done) | ((try simp only [bn_s] at ht); (try simp only [nd_s] at ht); (try (exfalso; first | contradiction | omega)))) | (refine ht ?_ ?_ <;> clear ht) | (refine ht.1 ?_ ?_ <;> clear ht) | (refine ht ?_; clear ht))
        all_goals (try simp only [hcL, hcE] at *)
        all_goals first
          | exact True.intro
          | omega
          | ((try simp only [nd_s, bn_s, mm_s] at *); omega)
          | (refine ⟨?_, by first | rfl | exact True.intro⟩; simp only [failE, if_neg he]; done)
          | (refine ⟨?_, by first | rfl | exact True.intro⟩; simp only [failE, if_neg he]; rfl)
          | trace_state
  · cases e
end Go.Eng
namespace Go.Eng
open Go.Proofs
set_option linter.unusedVariables false
set_option linter.unusedSimpArgs false
set_option maxRecDepth 100000
set_option maxHeartbeats 1000000
theorem ac_bad {b : List Int} (h : acE b ≠ 0) : (∀ x, acI b x = 0) ∧ (∀ k, acA b k = 0) ∧ (∀ x, acS b x = 0) ∧ acH b = false ∧ (∀ l, acV b l = []) ∧ acD b = [] := by
  have hI : ∀ x, acI b x = 0 := fun x => if_neg h
  refine ⟨hI, fun k => hI _, fun x => hI _, ?_, fun l => if_neg h, if_neg h⟩
  unfold acH; rw [decide_eq_false h]; rfl
theorem ac_set {b : List Int} (h : acE b = 0) (h25 : tT b = 25) : (∀ x, acI b x = x) ∧ (∀ k, acA b k = 0) ∧ (∀ x, acS b x = x) ∧ acH b = decH (bd b) ∧ (∀ l, acV b l = l) ∧ acD b = [] := by
  have hI : ∀ x, acI b x = x := fun x => if_pos h
  refine ⟨hI, fun k => (hI _).trans (if_pos h25), fun x => (hI _).trans (if_pos h25), ?_, fun l => (if_pos h).trans (if_pos h25), (if_pos h).trans (if_pos h25)⟩
  unfold acH; rw [decide_eq_true h, decide_eq_true h25]; rfl
theorem ac_row {b : List Int} (h : acE b = 0) (h25 : ¬ tT b = 25) : (∀ x, acI b x = x) ∧ (∀ k, acA b k = (getL (rowT (tT b)) (bd b)).getD k 0) ∧ (∀ x, acS b x = 0) ∧ acH b = false ∧ (∀ l, acV b l = []) ∧ acD b = (bd b).drop (sizeW (rowT (tT b))).toNat := by
  have hI : ∀ x, acI b x = x := fun x => if_pos h
  refine ⟨hI, fun k => (hI _).trans (if_neg h25), fun x => (hI _).trans (if_neg h25), ?_, fun l => (if_pos h).trans (if_neg h25), (if_pos h).trans (if_neg h25)⟩
  unfold acH; rw [decide_eq_false h25]; simp
def ir_action_Decode : IR :=
(.seq
(.keep [0]
(.reg (oD 2 (.box [.int .i64 0, .int .u64 0, .int .u64 0, .int .i64 0, .int .i64 0, .kb false, .int .u64 0, .imm (.int .u8) [], .imm (.int .u8) [], .imm (.int .u8) []]) ::
oD 3 (.mov (cI 0)) ::
oD 4 (.mov (cI 0)) ::
[])))
(.seq
(.keep [0, 2]
(.reg (oD 12 (.build [.int .i64 0, .int .i64 0, .kb false, .int .i64 0, .int .i64 0] [(0, 1, (cI 8)), (1, 1, (cI 8)), (3, 1, (cI 514)), (4, 1, (cI 514))]) ::
oM 13 0 ::
oD 14 (.call false (.f 283) [(.t 12), (.t 13)]) ::
oM 11 14 ::
oD 15 (.extract (.t 11) 0) ::
oD 16 (.extract (.t 11) 1) ::
oD 17 (.extract (.t 11) 2) ::
oD 5 (.box [.int .i64 0, .imm (.int .u8) []]) ::
oN (.store 2 (.t 5) (.t 15)) ::
oM 6 16 ::
oM 7 17 ::
[])))
(.seq
(.seq
(.keep [2, 5, 6, 7]
(.reg (oM 18 7 ::
oD 19 (.bin .neq (.t 18) (cI 0)) ::
[])))
(.cond (.t 19)
(.seq
(.reg (oD 20 (.build [.int .i64 0, .int .u64 0, .int .u64 0, .int .i64 0, .int .i64 0, .kb false, .int .u64 0, .imm (.int .u8) [], .imm (.int .u8) [], .imm (.int .u8) []] []) ::
oM 21 7 ::
oN (.store 10 (.t 2) (.t 20)) ::
oD 3 (.mov (cI 0)) ::
oM 4 21 ::
[]))
.ret)
.skip))
(.seq
(.keep [2, 5, 6]
(.reg (oD 22 (.fieldAddr 0 (.t 5)) ::
oL 23 22 ::
oD 24 (.build [.int .i64 0, .int .u64 0, .int .u64 0, .int .i64 0, .int .i64 0, .kb false, .int .u64 0, .imm (.int .u8) [], .imm (.int .u8) [], .imm (.int .u8) []] [(0, 1, (.t 23))]) ::
oD 8 (.box [.int .i64 0, .int .u64 0, .int .u64 0, .int .i64 0, .int .i64 0, .kb false, .int .u64 0, .imm (.int .u8) [], .imm (.int .u8) [], .imm (.int .u8) []]) ::
oN (.store 10 (.t 8) (.t 24)) ::
[])))
(.seq
(.keep [2, 5, 6, 8]
(.reg (oD 26 (.fieldAddr 0 (.t 5)) ::
oL 27 26 ::
oD 28 (.call false (.f 241) [(.t 27)]) ::
oM 25 28 ::
oD 29 (.extract (.t 25) 0) ::
oD 30 (.extract (.t 25) 1) ::
oM 9 29 ::
oM 10 30 ::
[])))
(.seq
(.block 0
(.seq
(.keep [2, 5, 6, 8, 9, 10]
(.reg (oD 32 (.fieldAddr 0 (.t 5)) ::
oL 33 32 ::
oD 34 (.bin .eql (.t 33) (cI 25)) ::
oM 31 34 ::
[])))
(.cond (.t 31)
(.keep [2, 5, 6, 8]
(.reg (oD 36 (.fieldAddr 1 (.t 5)) ::
oL 37 36 ::
oD 38 (.call false (.f 284) [(.t 37)]) ::
oM 35 38 ::
oD 39 (.extract (.t 35) 0) ::
oD 40 (.extract (.t 35) 1) ::
oD 41 (.fieldAddr 3 (.t 8)) ::
oN (.store 6 (.t 41) (.t 39)) ::
oM 7 40 ::
[])))
(.seq
(.reg (oM 43 10 ::
oM 42 43 ::
[]))
(.cond (.t 42)
(.keep [2, 5, 6, 8, 9]
(.reg (oD 45 (.load (some 10) (.t 8)) ::
oM 46 9 ::
oD 47 (.fieldAddr 1 (.t 5)) ::
oL 48 47 ::
oD 49 (.call false (.f 285) [(.t 45), (.t 46), (.t 48)]) ::
oM 44 49 ::
oD 50 (.extract (.t 44) 0) ::
oD 51 (.extract (.t 44) 1) ::
oN (.store 10 (.t 8) (.t 50)) ::
oM 7 51 ::
[])))
(.keep [2, 6, 8]
(.reg (oD 7 (.mov (cI 513)) ::
[]))))))))
(.seq
(.seq
(.keep [2, 6, 7, 8]
(.reg (oM 52 7 ::
oD 53 (.bin .neq (.t 52) (cI 0)) ::
[])))
(.cond (.t 53)
(.seq
(.reg (oD 54 (.build [.int .i64 0, .int .u64 0, .int .u64 0, .int .i64 0, .int .i64 0, .kb false, .int .u64 0, .imm (.int .u8) [], .imm (.int .u8) [], .imm (.int .u8) []] []) ::
oM 55 7 ::
oN (.store 10 (.t 2) (.t 54)) ::
oD 3 (.mov (cI 0)) ::
oM 4 55 ::
[]))
.ret)
.skip))
(.seq
(.keep [2, 6, 8]
(.reg (oD 56 (.load (some 10) (.t 8)) ::
oM 57 6 ::
oN (.store 10 (.t 2) (.t 56)) ::
oM 3 57 ::
oD 4 (.mov (cI 0)) ::
[])))
.ret))))))))
def rd_action_Decode : List RD := [.cell 2 (some 10) true [], .tmp 3 true none, .tmp 4 true none]
theorem ok_action_Decode : fnOk Tryz.prog Tryz.f266 ir_action_Decode rd_action_Decode = true := by kernel_rfl
def S_action_Decode : List AV → List Obj → Option (Prop × AV)
  | [.imm (.int .u8) b], [] => some ((b.length ≤ 140737488355328, .tup [.agg [.int .i64 (acI b (tT b)), .int .u64 (acA b 0), .int .u64 (acA b 1), .int .i64 (acS b (decC (bd b))), .int .i64 (acS b (decF (bd b))), .bool (acH b), .int .u64 (acS b (decX (bd b))), .imm (.int .u8) (acV b (decV (bd b))), .imm (.int .u8) (acV b (decM (bd b))), .imm (.int .u8) (acD b)], .int .i64 (acI b (tN b)), .int .i64 (acE b)]))
  | _, _ => none
theorem snd_action_Decode : SoundS Tryz.prog 266 (RoF S_action_Decode).sum := by
  refine ro_fn Tryz.func266 ok_action_Decode (env_cons (s := RoF S_tlv_One) snd_tlv_One (env_cons (s := RoF S_action_rows) snd_action_rows (env_cons (s := RoF S_action_set) snd_action_set (env_cons (s := RoF S_action_plain) snd_action_plain (env_nil _))))) fun args objs p v e => ?_
  unfold S_action_Decode at e
  split at e
  · rename_i b
    cases e
    refine ⟨rfl, fun hw ho hp => ?_⟩
    change List Int at b
    have hb : ∀ x ∈ (b : List Int), (0 : Int) ≤ x ∧ x ≤ 255 := fun x hx => (hw (.imm (.int .u8) b) (by simp)).1 x hx
    clear hw ho
    have hbl := bd_le hb
    have hs : (False = False) ∧ (4 ≤ (8 : Int) ∧ (8 : Int) ≤ 60000 ∧ 1 ≤ (8 : Int) ∧ (8 : Int) ≤ 64 ∧ (514 : Int) ≠ 0 ∧ (514 : Int) ≠ 0) := ⟨rfl, by decide, by decide, by decide, by decide, by decide, by decide⟩
    by_cases hT : tlE b 8 8 514 = 0
    · have hI : ∀ x, tlI b 8 8 514 x = x := fun x => if_pos hT
      have hR : tlR b 8 8 514 = bd b := if_pos hT
      by_cases h25 : tT b = 25
      · have hE : acE b = setE (bd b) := by unfold acE; rw [if_neg (not_not_intro hT), if_pos h25]
        by_cases h0 : setE (bd b) = 0
        · have hd0 : decE (bd b) = 0 := Classical.byContradiction fun h => by
            unfold setE at h0; rw [if_neg h] at h0
            split at h0
            · cases h0
            · split at h0 <;> cases h0
          have hdI : ∀ x, decI (bd b) x = x := fun x => if_pos hd0
          have hdR : ∀ l, decR (bd b) l = l := fun l => if_pos hd0
          obtain ⟨n1, n2, n3, n4, n5, n6⟩ := ac_set (hE.trans h0) h25
          rw [n1, n2, n2, n3, n3, n3, n4, n5, n5, n6, n1, hE, h0]
          repeat' (intro t ht; first | (cases t <;> first | (cases ht; done) | ((try simp only [bn_s] at ht); (try simp only [nd_s] at ht); (try (exfalso; first | contradiction | omega)))) | (refine ht ?_ ?_ <;> clear ht) | (refine ht.1 ?_ ?_ <;> clear ht) | (refine ht ?_; clear ht))
          all_goals (try simp only [hT, hI, hR, h0, h25, hdI, hdR, if_pos hd0, not_true_eq_false] at *)
          all_goals first
            | exact True.intro
            | omega
            | exact ⟨by first | rfl | exact True.intro, ⟨by decide, by decide, by decide, by decide, by decide, by decide⟩, hp⟩
            | exact ⟨rfl, by first | rfl | exact True.intro⟩
                | exact ⟨True.intro, True.intro⟩
            | trace_state
        · obtain ⟨n1, n2, n3, n4, n5, n6⟩ := ac_bad (b := b) (by rw [hE]; exact h0)
          rw [n1, n2, n2, n3, n3, n3, n4, n5, n5, n6, n1, hE]
          repeat' (intro t ht; first | (cases t <;> first | (cases ht; done) | ((try simp only [bn_s] at ht); (try simp only [nd_s] at ht); (try (exfalso; first | contradiction | omega)))) | (refine ht ?_ ?_ <;> clear ht) | (refine ht.1 ?_ ?_ <;> clear ht) | (refine ht ?_; clear ht))
          all_goals (try simp only [hT, hI, hR, h25, not_true_eq_false] at *)
          all_goals first
            | exact True.intro
            | omega
            | exact ⟨by first | rfl | exact True.intro, ⟨by decide, by decide, by decide, by decide, by decide, by decide⟩, hp⟩
            | exact ⟨rfl, by first | rfl | exact True.intro⟩
                | exact ⟨True.intro, True.intro⟩
            | trace_state
      · cases hK : rowK (tT b) with
        | false =>
          have hE : acE b = 513 := by unfold acE; rw [if_neg (not_not_intro hT), if_neg h25, hK]; rfl
          obtain ⟨n1, n2, n3, n4, n5, n6⟩ := ac_bad (b := b) (by rw [hE]; decide)
          rw [n1, n2, n2, n3, n3, n3, n4, n5, n5, n6, n1, hE]
          repeat' (intro t ht; first | (cases t <;> first | (cases ht; done) | ((try simp only [bn_s] at ht); (try simp only [nd_s] at ht); (try (exfalso; first | contradiction | omega)))) | (refine ht ?_ ?_ <;> clear ht) | (refine ht.1 ?_ ?_ <;> clear ht) | (refine ht ?_; clear ht))
          all_goals (try simp only [hT, hI, hR, not_true_eq_false] at *)
          all_goals first
            | exact True.intro
            | omega
            | exact ⟨by first | rfl | exact True.intro, ⟨by decide, by decide, by decide, by decide, by decide, by decide⟩, hp⟩
            | exact ⟨rfl, by first | rfl | exact True.intro⟩
                | exact ⟨True.intro, True.intro⟩
            | (exfalso; simp_all; done)
            | trace_state
        | true =>
          have hE : acE b = plE (tT b) (bd b) := by unfold acE; rw [if_neg (not_not_intro hT), if_neg h25, if_pos hK]
          by_cases h0 : plE (tT b) (bd b) = 0
          · obtain ⟨n1, n2, n3, n4, n5, n6⟩ := ac_row (hE.trans h0) h25
            have hm : ¬ (¬ tT b = 65535 ∧ ¬ ((bd b).length : Int) = sizeW (rowT (tT b))) := fun h => by unfold plE at h0; rw [if_pos h] at h0; cases h0
            have hA : ∀ k, plA (tT b) (bd b) k = (getL (rowT (tT b)) (bd b)).getD k 0 := fun k => if_neg hm
            have hD : plD (tT b) (bd b) = (bd b).drop (sizeW (rowT (tT b))).toNat := if_pos h0
            rw [n1, n2, n2, n3, n3, n3, n4, n5, n5, n6, n1, hE, h0]
            repeat' (intro t ht; first | (cases t <;> first | (cases ht; done) | ((try simp only [bn_s] at ht); (try simp only [nd_s] at ht); (try (exfalso; first | contradiction | omega)))) | (refine ht ?_ ?_ <;> clear ht) | (refine ht.1 ?_ ?_ <;> clear ht) | (refine ht ?_; clear ht))
            all_goals (try simp only [hT, hI, hR, h0, hA, hD, not_true_eq_false] at *)
            all_goals first
              | exact True.intro
              | omega
              | exact ⟨by first | rfl | exact True.intro, ⟨by decide, by decide, by decide, by decide, by decide, by decide⟩, hp⟩
              | exact ⟨rfl, by first | rfl | exact True.intro⟩
                | exact ⟨True.intro, True.intro⟩
              | exact ⟨trivial, by omega⟩
              | (exfalso; simp_all; done)
              | trace_state
          · obtain ⟨n1, n2, n3, n4, n5, n6⟩ := ac_bad (b := b) (by rw [hE]; exact h0)
            rw [n1, n2, n2, n3, n3, n3, n4, n5, n5, n6, n1, hE]
            repeat' (intro t ht; first | (cases t <;> first | (cases ht; done) | ((try simp only [bn_s] at ht); (try simp only [nd_s] at ht); (try (exfalso; first | contradiction | omega)))) | (refine ht ?_ ?_ <;> clear ht) | (refine ht.1 ?_ ?_ <;> clear ht) | (refine ht ?_; clear ht))
            all_goals (try simp only [hT, hI, hR, not_true_eq_false] at *)
            all_goals first
              | exact True.intro
              | omega
              | exact ⟨by first | rfl | exact True.intro, ⟨by decide, by decide, by decide, by decide, by decide, by decide⟩, hp⟩
              | exact ⟨rfl, by first | rfl | exact True.intro⟩
                | exact ⟨True.intro, True.intro⟩
              | exact ⟨trivial, by omega⟩
              | (exfalso; simp_all; done)
              | trace_state
    · have hE : acE b = tlE b 8 8 514 := by unfold acE; rw [if_pos hT]
      obtain ⟨n1, n2, n3, n4, n5, n6⟩ := ac_bad (b := b) (by rw [hE]; exact hT)
      rw [n1, n2, n2, n3, n3, n3, n4, n5, n5, n6, n1, hE]
      repeat' (intro t ht; first | (cases t <;> first | (cases ht; done) | ((try simp only [bn_s] at ht); (try simp only [nd_s] at ht); (try (exfalso; first | contradiction | omega)))) | (refine ht ?_ ?_ <;> clear ht) | (refine ht.1 ?_ ?_ <;> clear ht) | (refine ht ?_; clear ht))
      all_goals first
        | exact True.intro
        | exact ⟨by first | rfl | exact True.intro, ⟨by decide, by decide, by decide, by decide, by decide, by decide⟩, hp⟩
        | exact ⟨rfl, by first | rfl | exact True.intro⟩
                | exact ⟨True.intro, True.intro⟩
        | trace_state
  · cases e
def ir_r12_Few : IR :=
(.seq
(.keep [0]
(.reg (oD 1 (.boxv (.t 0)) ::
oD 2 (.mov cF) ::
[])))
(.seq
(.keep [1]
(.reg (oD 3 (.fieldAddr 3 (.t 1)) ::
oD 4 (.load (some 6) (.t 3)) ::
oD 5 (.call false (.f 146) [(.t 4)]) ::
oM 6 5 ::
oT 6 7 (.fieldAddr 9 (.t 1)) ::
oT 6 8 (.load none (.t 7)) ::
oT 6 9 (.len (.t 8)) ::
oT 6 10 (.bin .leq (.t 9) (cI 500)) ::
oD 11 (.pick (.t 6) (.t 10) cF) ::
oM 2 11 ::
[])))
.ret))
def rd_r12_Few : List RD := [.tmp 2 true none]
theorem ok_r12_Few : fnOk Tryz.prog Tryz.f137 ir_r12_Few rd_r12_Few = true := by kernel_rfl
def S_r12_Few : List AV → List Obj → Option (Prop × AV)
  | [.agg [.int .i64 q, .int .u64 a, .int .u64 b, .int .i64 c, .int .i64 f, .bool h, .int .u64 x, .imm (.int .u8) v, .imm (.int .u8) m, .imm (.int .u8) d]], [] => some ((True, .bool (decide (v.length ≤ 300) && decide (m.length ≤ 300) && decide (d.length ≤ 500))))
  | _, _ => none
theorem snd_r12_Few : SoundS Tryz.prog 137 (RoF S_r12_Few).sum := by
  refine ro_fn Tryz.func137 ok_r12_Few (env_cons (s := RoF S_r08_Few) snd_r08_Few (env_nil _)) fun args objs p v e => ?_
  unfold S_r12_Few at e
  split at e
  · rename_i q a b c f h x v m d
    cases e
    refine ⟨rfl, fun hw ho hp => ?_⟩
    change List Int at v
    change List Int at m
    change List Int at d
    clear hw ho
    repeat' (intro t ht; first | (cases t <;> first | (cases ht; done) | ((try simp only [bn_s] at ht); (try simp only [nd_s] at ht); (try (exfalso; first | contradiction | omega)))) | (refine ht ?_ ?_ <;> clear ht) | (refine ht.1 ?_ ?_ <;> clear ht) | (refine ht ?_; clear ht))
    all_goals first
      | exact True.intro
      | (refine ⟨congrArg AV.bool ?_, rfl⟩; simp_all; done)
      | (refine ⟨congrArg AV.bool ?_, rfl⟩; simp_all; omega)
      | trace_state
  · cases e
def ir_r12_Same : IR :=
(.seq
(.keep [0, 1]
(.reg (oD 2 (.boxv (.t 0)) ::
oD 3 (.boxv (.t 1)) ::
oD 4 (.mov cF) ::
[])))
(.seq
(.keep [2, 3]
(.reg (oD 5 (.fieldAddr 0 (.t 2)) ::
oL 6 5 ::
oD 7 (.fieldAddr 0 (.t 3)) ::
oL 8 7 ::
oD 9 (.bin .eql (.t 6) (.t 8)) ::
oM 10 9 ::
oT 10 11 (.fieldAddr 1 (.t 2)) ::
oT 10 12 (.load none (.t 11)) ::
oT 10 13 (.fieldAddr 1 (.t 3)) ::
oT 10 14 (.load none (.t 13)) ::
oT 10 15 (.bin .eql (.t 12) (.t 14)) ::
oD 16 (.pick (.t 10) (.t 15) cF) ::
oM 17 16 ::
oT 17 18 (.fieldAddr 2 (.t 2)) ::
oT 17 19 (.load none (.t 18)) ::
oT 17 20 (.fieldAddr 2 (.t 3)) ::
oT 17 21 (.load none (.t 20)) ::
oT 17 22 (.bin .eql (.t 19) (.t 21)) ::
oD 23 (.pick (.t 17) (.t 22) cF) ::
oM 24 23 ::
oT 24 25 (.fieldAddr 3 (.t 2)) ::
oT 24 26 (.load (some 6) (.t 25)) ::
oT 24 27 (.fieldAddr 3 (.t 3)) ::
oT 24 28 (.load (some 6) (.t 27)) ::
oT 24 29 (.call false (.f 164) [(.t 26), (.t 28)]) ::
oD 30 (.pick (.t 24) (.t 29) cF) ::
oM 31 30 ::
oT 31 32 (.fieldAddr 9 (.t 2)) ::
oT 31 33 (.load none (.t 32)) ::
oT 31 34 (.fieldAddr 9 (.t 3)) ::
oT 31 35 (.load none (.t 34)) ::
oT 31 36 (.call false (.f 20) [(.t 33), (.t 35)]) ::
oD 37 (.pick (.t 31) (.t 36) cF) ::
oM 4 37 ::
[])))
.ret))
def rd_r12_Same : List RD := [.tmp 4 true none]
theorem ok_r12_Same : fnOk Tryz.prog Tryz.f135 ir_r12_Same rd_r12_Same = true := by kernel_rfl
def S_r12_Same : List AV → List Obj → Option (Prop × AV)
  | [.agg [.int .i64 q, .int .u64 a, .int .u64 b, .int .i64 c, .int .i64 f, .bool h, .int .u64 x, .imm (.int .u8) v, .imm (.int .u8) m, .imm (.int .u8) d], .agg [.int .i64 q', .int .u64 a', .int .u64 b', .int .i64 c', .int .i64 f', .bool h', .int .u64 x', .imm (.int .u8) v', .imm (.int .u8) m', .imm (.int .u8) d']], [] => some ((True, .bool (sameA q a b c f h x v m d q' a' b' c' f' h' x' v' m' d')))
  | _, _ => none
theorem snd_r12_Same : SoundS Tryz.prog 135 (RoF S_r12_Same).sum := by
  refine ro_fn Tryz.func135 ok_r12_Same (env_cons (s := RoF S_r08_Same) snd_r08_Same (env_cons (s := RoF S_r01_Bytes) snd_r01_Bytes (env_nil _))) fun args objs p v e => ?_
  unfold S_r12_Same at e
  split at e
  · rename_i q a b c f h x v m d q' a' b' c' f' h' x' v' m' d'
    cases e
    refine ⟨rfl, fun hw ho hp => ?_⟩
    change List Int at v
    change List Int at m
    change List Int at d
    change List Int at v'
    change List Int at m'
    change List Int at d'
    clear hw ho
    repeat' (intro t ht; first | (cases t <;> first | (cases ht; done) | ((try simp only [bn_s] at ht); (try simp only [nd_s] at ht); (try (exfalso; first | contradiction | omega)))) | (refine ht ?_ ?_ <;> clear ht) | (refine ht.1 ?_ ?_ <;> clear ht) | (refine ht ?_; clear ht))
    all_goals first
      | exact True.intro
      | (refine ⟨congrArg AV.bool ?_, rfl⟩; unfold sameA; simp_all; done)
      | trace_state
  · cases e
end Go.Eng
namespace Go.Eng
open Go.Proofs
set_option linter.unusedVariables false
set_option linter.unusedSimpArgs false
set_option maxRecDepth 100000
set_option maxHeartbeats 1000000
abbrev AC := Int × Int × Int × OV × List Int × Unit
instance : DecidableEq (OV × List Int × Unit) := inferInstance
instance : DecidableEq (Int × OV × List Int × Unit) := inferInstance
instance : DecidableEq AC := inferInstance
def rgA (a : AC) : Bool := rightA (rightO a.2.2.2.1.1 a.2.2.2.1.2.1 a.2.2.2.1.2.2.1 a.2.2.2.1.2.2.2.1 a.2.2.2.1.2.2.2.2.1 a.2.2.2.1.2.2.2.2.2.1) a.1 a.2.1 a.2.2.1 a.2.2.2.1.1 a.2.2.2.1.2.1 a.2.2.2.1.2.2.1 a.2.2.2.1.2.2.2.1 a.2.2.2.1.2.2.2.2.1 a.2.2.2.1.2.2.2.2.2.1 a.2.2.2.2.1
def szA (a : AC) : Int := sizeA (rightO a.2.2.2.1.1 a.2.2.2.1.2.1 a.2.2.2.1.2.2.1 a.2.2.2.1.2.2.2.1 a.2.2.2.1.2.2.2.2.1 a.2.2.2.1.2.2.2.2.2.1) (sizeO a.2.2.2.1.1 a.2.2.2.1.2.1 a.2.2.2.1.2.2.1 a.2.2.2.1.2.2.2.1 a.2.2.2.1.2.2.2.2.1 a.2.2.2.1.2.2.2.2.2.1) a.1 a.2.1 a.2.2.1 a.2.2.2.1.1 a.2.2.2.1.2.1 a.2.2.2.1.2.2.1 a.2.2.2.1.2.2.2.1 a.2.2.2.1.2.2.2.2.1 a.2.2.2.1.2.2.2.2.2.1 a.2.2.2.2.1
def ebA (a : AC) : List Int := encA a.1 a.2.1 a.2.2.1 (encO a.2.2.2.1.1 a.2.2.2.1.2.1 a.2.2.2.1.2.2.1 a.2.2.2.1.2.2.2.1 a.2.2.2.1.2.2.2.2.1 a.2.2.2.1.2.2.2.2.2.1) a.2.2.2.2.1
def exA (a : AC) : List Int := if rgA a = true then ebA a else []
def eeA (a : AC) : Int := if rgA a = true then 0 else 10001
def lenA (a : AC) : Prop := a.2.2.2.1.2.2.2.2.1.length ≤ 100000 ∧ a.2.2.2.1.2.2.2.2.2.1.length ≤ 100000 ∧ a.2.2.2.2.1.length ≤ 100000
theorem lenAM {a : AC} (h : lenA a) : a.2.2.2.1.2.2.2.2.1.length ≤ 1000000 ∧ a.2.2.2.1.2.2.2.2.2.1.length ≤ 1000000 := ⟨Nat.le_trans h.1 (by decide), Nat.le_trans h.2.1 (by decide)⟩
structure okL (l : List AC) : Prop where
  a : ∀ o ∈ l, lenA o
  n : l.length ≤ 1000000
def fwA (a : AC) : Bool := decide (a.2.2.2.1.2.2.2.2.1.length ≤ 300) && decide (a.2.2.2.1.2.2.2.2.2.1.length ≤ 300) && decide (a.2.2.2.2.1.length ≤ 500)
theorem fwA_t {a : AC} (h : (a.2.2.2.1.2.2.2.2.1.length ≤ 300 ∧ a.2.2.2.1.2.2.2.2.2.1.length ≤ 300) ∧ a.2.2.2.2.1.length ≤ 500) : fwA a = true := by unfold fwA; simp [h.1.1, h.1.2, h.2]
theorem fwA_f {a : AC} (h : (¬ a.2.2.2.1.2.2.2.2.1.length ≤ 300 ∨ ¬ a.2.2.2.1.2.2.2.2.2.1.length ≤ 300) ∨ ¬ a.2.2.2.2.1.length ≤ 500) : fwA a = false := by unfold fwA; rcases h with (h | h) | h <;> simp [h]
def fewL (l : List AC) : Bool := l.all fwA && decide (l.length ≤ 80)
theorem fewL_ok {l : List AC} (h : fewL l = true) : okL l ∧ l.length ≤ 80 := by
  unfold fewL at h
  simp only [Bool.and_eq_true, decide_eq_true_eq] at h
  refine ⟨⟨fun o ho => ?_, by omega⟩, h.2⟩
  have := List.all_eq_true.1 h.1 o ho
  unfold fwA at this
  simp only [Bool.and_eq_true, decide_eq_true_eq] at this
  exact ⟨by omega, by omega, by omega⟩
def ir_r13_Few : IR :=
(.seq
(.keep [0]
(.reg (oD 2 (.mov cF) ::
[])))
(.seq
(.seq
(.reg (oD 3 (.mov (cI 0)) ::
[]))
(.block 0
(.loop
(.seq
(.seq
(.keep [0, 3]
(.reg (oM 4 3 ::
oM 5 0 ::
oD 6 (.len (.t 5)) ::
oD 7 (.bin .lss (.t 4) (.t 6)) ::
[])))
(.cond (.t 7)
.skip
(.exit 0)))
(.seq
(.block 1
(.seq
(.keep [0, 3]
(.reg (oM 10 0 ::
oM 11 3 ::
oD 12 (.indexSl 10 (.t 10) (.t 11)) ::
oD 13 (.load (some 10) (.t 12)) ::
oD 14 (.call false (.f 137) [(.t 13)]) ::
oD 15 (.un .not (.t 14)) ::
[])))
(.cond (.t 15)
(.seq
(.keep []
(.reg (oD 2 (.mov cF) ::
[])))
.ret)
.skip)))
(.keep [0, 3]
(.reg (oM 8 3 ::
oD 9 (.bin .add (.t 8) (cI 1)) ::
oM 3 9 ::
[]))))))))
(.seq
(.keep [0]
(.reg (oM 16 0 ::
oD 17 (.len (.t 16)) ::
oD 18 (.bin .leq (.t 17) (cI 80)) ::
oM 2 18 ::
[])))
.ret)))
def rd_r13_Few : List RD := [.tmp 2 true none]
theorem ok_r13_Few : fnOk Tryz.prog Tryz.f79 ir_r13_Few rd_r13_Few = true := by kernel_rfl
def S_r13_Few : List AV → List Obj → Option (Prop × AV)
  | [.imm (.cons (.int .i64) (.cons (.int .u64) (.cons (.int .u64) (.cons (.cons (.int .i64) (.cons (.int .i64) (.cons .bool (.cons (.int .u64) (.cons (.sl (.int .u8)) (.cons (.sl (.int .u8)) .nil)))))) (.cons (.sl (.int .u8)) .nil))))) l], [] => some ((True, .bool (fewL l)))
  | _, _ => none
theorem snd_r13_Few : SoundS Tryz.prog 79 (RoF S_r13_Few).sum := by
  refine ro_fn Tryz.func79 ok_r13_Few (env_cons (s := RoF S_r12_Few) snd_r12_Few (env_nil _)) fun args objs p v e => ?_
  unfold S_r13_Few at e
  split at e
  · rename_i l
    cases e
    refine ⟨rfl, fun hw ho hp => ?_⟩
    change List AC at l
    have hl : l.length ≤ maxLen := (hw (.imm (.cons (.int .i64) (.cons (.int .u64) (.cons (.int .u64) (.cons (.cons (.int .i64) (.cons (.int .i64) (.cons .bool (.cons (.int .u64) (.cons (.sl (.int .u8)) (.cons (.sl (.int .u8)) .nil)))))) (.cons (.sl (.int .u8)) .nil))))) l) (by simp)).2
    unfold maxLen at hl
    clear hw ho
    repeat' (intro t ht; first | (cases t <;> first | (cases ht; done) | ((try simp only [bn_s] at ht); (try simp only [nd_s] at ht))) | (refine ht ?_ ?_ <;> clear ht) | (refine ht.1 ?_ ?_ <;> clear ht) | (refine ht ?_; clear ht))
    all_goals first
      | (intro r h1 h2; clear h1; refine h2 ⟨[0, 3], Nat, (fun i => i ≤ l.length ∧ (l.take i).all fwA = true), fun i => [.imm (.cons (.int .i64) (.cons (.int .u64) (.cons (.int .u64) (.cons (.cons (.int .i64) (.cons (.int .i64) (.cons .bool (.cons (.int .u64) (.cons (.sl (.int .u8)) (.cons (.sl (.int .u8)) .nil)))))) (.cons (.sl (.int .u8)) .nil))))) l, .int .i64 i], fun _ => [], fun i => l.length - i, ⟨0, ⟨Nat.zero_le _, rfl⟩, rfl, rfl⟩, ?_⟩; clear h2)
    rintro i ⟨hi, he⟩
    repeat' (intro t ht; first | (cases t <;> first | (cases ht; done) | ((try simp only [bn_s] at ht); (try simp only [nd_s] at ht); (try (exfalso; first | contradiction | omega)))) | (refine ht ?_ ?_ <;> clear ht) | (refine ht.1 ?_ ?_ <;> clear ht) | (refine ht ?_; clear ht))
    all_goals (try generalize (Ty.dflt (.cons (.int .i64) (.cons (.int .u64) (.cons (.int .u64) (.cons (.cons (.int .i64) (.cons (.int .i64) (.cons .bool (.cons (.int .u64) (.cons (.sl (.int .u8)) (.cons (.sl (.int .u8)) .nil)))))) (.cons (.sl (.int .u8)) .nil)))))) = od at *)
    all_goals first
      | exact True.intro
      | ((try simp only [nd_s, bn_s, mm_s] at *); omega)
      | (have h := allT_end (by omega) he
         refine ⟨?_, rfl⟩; unfold fewL; rw [h, Bool.true_and]; congr 1; exact decide_eq_decide.2 (by omega))
      | (have hf := fwA_t ht
         exact ⟨i + 1, ⟨by omega, allT_step (d := od) (by omega) he hf⟩, by dsimp only; omega, rfl, rfl⟩)
      | (have hf := fwA_f ht
         have h : fewL l = false := by unfold fewL; rw [all_miss (d := od) (show i < l.length by omega) hf, Bool.false_and]
         refine ⟨?_, rfl⟩; rw [h]; done)
      | trace_state
  · cases e
theorem szA_0 {a : AC} (h : rgA a = false) : szA a = 0 := by
  unfold szA sizeA; unfold rgA at h; rw [h]; rfl
theorem szA_1 {a : AC} (h : rgA a = true) : szA a = (ebA a).length ∧ 8 ≤ szA a ∧ szA a ≤ 65528 ∧ (ebA a).length % 8 = 0 := by
  obtain ⟨s0, s1, s2, s3⟩ := sizeA_len h
  have l2 := bytesN_len (n := a.1) (w := 2) (by decide)
  have hb : (ebA a).length = 4 + (bodyA a.1 a.2.1 a.2.2.1 (encO a.2.2.2.1.1 a.2.2.2.1.2.1 a.2.2.2.1.2.2.1 a.2.2.2.1.2.2.2.1 a.2.2.2.1.2.2.2.2.1 a.2.2.2.1.2.2.2.2.2.1) a.2.2.2.2.1).length := by
    have l3 := bytesN_len (n := (4 + (bodyA a.1 a.2.1 a.2.2.1 (encO a.2.2.2.1.1 a.2.2.2.1.2.1 a.2.2.2.1.2.2.1 a.2.2.2.1.2.2.2.1 a.2.2.2.1.2.2.2.2.1 a.2.2.2.1.2.2.2.2.2.1) a.2.2.2.2.1).length)) (w := 2) (by decide)
    unfold ebA encA; simp only [List.length_append]; omega
  have e : szA a = 4 + ((bodyA a.1 a.2.1 a.2.2.1 (encO a.2.2.2.1.1 a.2.2.2.1.2.1 a.2.2.2.1.2.2.1 a.2.2.2.1.2.2.2.1 a.2.2.2.1.2.2.2.2.1 a.2.2.2.1.2.2.2.2.2.1) a.2.2.2.2.1).length : Int) := s0
  omega
theorem szA_le (a : AC) : 0 ≤ szA a ∧ szA a ≤ 65528 := by
  cases h : rgA a with
  | true => have := szA_1 h; omega
  | false => rw [szA_0 h]; decide
def smT (l : List AC) (i : Nat) : Int := ((l.take i).map szA).sum
def smL (l : List AC) : Int := (l.map szA).sum
theorem smT_step {l : List AC} {i : Nat} {d : AC} (h : i < l.length) : smT l (i + 1) = smT l i + szA (l.getD i d) := by
  unfold smT
  rw [List.take_succ_eq_append_getElem h, List.map_append, List.sum_append, List.getD_eq_getElem?_getD, List.getElem?_eq_getElem h]
  simp
theorem smT_end {l : List AC} {i : Nat} (h : l.length ≤ i) : smT l i = smL l := by unfold smT smL; rw [List.take_of_length_le h]
theorem smT_le {l : List AC} (i : Nat) (hi : i ≤ l.length) : 0 ≤ smT l i ∧ smT l i ≤ 65528 * i := by
  induction i with
  | zero => unfold smT; simp
  | succ i ih =>
    have := ih (by omega)
    have d : AC := (0, 0, 0, (0, 0, false, 0, [], [], ()), [], ())
    have hs := szA_le (l.getD i d)
    rw [smT_step (d := d) (by omega)]; omega
def szL (l : List AC) : Int := if 64 < l.length then 0 else if l.all rgA = true then (if 65528 < smL l then 0 else smL l) else 0
def ir_acts_Size : IR :=
(.seq
(.keep [0]
(.reg (oD 2 (.mov (cI 0)) ::
[])))
(.seq
(.seq
(.reg (oM 6 0 ::
oD 7 (.len (.t 6)) ::
oD 8 (.bin .gtr (.t 7) (cI 64)) ::
[]))
(.cond (.t 8)
(.seq
(.reg (oD 2 (.mov (cI 0)) ::
[]))
.ret)
.skip))
(.seq
(.seq
(.reg (oM 9 0 ::
oD 10 (.len (.t 9)) ::
oD 11 (.mov (cI 0)) ::
[]))
(.block 0
(.loop
(.seq
(.keep [2, 9, 10, 11]
(.reg (oD 12 (.bin .lss (.t 11) (.t 10)) ::
[])))
(.seq
(.cond (.t 12)
.skip
(.exit 0))
(.seq
(.block 1
(.seq
(.reg (oD 13 (.indexSl 10 (.t 9) (.t 11)) ::
oD 14 (.load (some 10) (.t 13)) ::
oD 4 (.box [.int .i64 0, .int .u64 0, .int .u64 0, .int .i64 0, .int .i64 0, .kb false, .int .u64 0, .imm (.int .u8) [], .imm (.int .u8) [], .imm (.int .u8) []]) ::
oN (.store 10 (.t 4) (.t 14)) ::
[]))
(.seq
(.reg (oD 15 (.load (some 10) (.t 4)) ::
oD 16 (.call false (.f 201) [(.t 15)]) ::
oM 5 16 ::
[]))
(.seq
(.seq
(.keep [2, 5, 9, 10, 11]
(.reg (oM 17 5 ::
oD 18 (.bin .eql (.t 17) (cI 0)) ::
[])))
(.cond (.t 18)
(.seq
(.reg (oD 2 (.mov (cI 0)) ::
[]))
.ret)
.skip))
(.reg (oM 19 2 ::
oM 20 5 ::
oD 21 (.bin .add (.t 19) (.t 20)) ::
oM 2 21 ::
[]))))))
(.keep [2, 9, 10, 11]
(.reg (oD 22 (.bin .add (.t 11) (cI 1)) ::
oM 11 22 ::
[])))))))))
(.seq
(.seq
(.keep [2]
(.reg (oM 23 2 ::
oD 24 (.bin .gtr (.t 23) (cI 65528)) ::
[])))
(.cond (.t 24)
(.seq
(.reg (oD 2 (.mov (cI 0)) ::
[]))
.ret)
.skip))
(.seq
(.reg (oM 25 2 ::
oM 2 25 ::
[]))
.ret)))))
def rd_acts_Size : List RD := [.tmp 2 true none]
theorem ok_acts_Size : fnOk Tryz.prog Tryz.f139 ir_acts_Size rd_acts_Size = true := by kernel_rfl
def S_acts_Size : List AV → List Obj → Option (Prop × AV)
  | [.imm (.cons (.int .i64) (.cons (.int .u64) (.cons (.int .u64) (.cons (.cons (.int .i64) (.cons (.int .i64) (.cons .bool (.cons (.int .u64) (.cons (.sl (.int .u8)) (.cons (.sl (.int .u8)) .nil)))))) (.cons (.sl (.int .u8)) .nil))))) l], [] => some ((okL l, .int .i64 (szL l)))
  | _, _ => none
theorem snd_acts_Size : SoundS Tryz.prog 139 (RoF S_acts_Size).sum := by
  refine ro_fn Tryz.func139 ok_acts_Size (env_cons (s := RoF S_action_Size) snd_action_Size (env_nil _)) fun args objs p v e => ?_
  unfold S_acts_Size at e
  split at e
  · rename_i l
    cases e
    refine ⟨rfl, fun hw ho hp => ?_⟩
    change List AC at l
    clear hw ho
    have hn := hp.n
    by_cases h64 : 64 < l.length
    · have e : szL l = 0 := if_pos h64
      rw [e]
      repeat' (intro t ht; first | (cases t <;> first | (cases ht; done) | ((try simp only [bn_s] at ht); (try simp only [nd_s] at ht); (try (exfalso; first | contradiction | omega)))) | (refine ht ?_ ?_ <;> clear ht) | (refine ht.1 ?_ ?_ <;> clear ht) | (refine ht ?_; clear ht))
      all_goals first
        | exact True.intro
        | exact ⟨rfl, rfl⟩
        | (exfalso; omega)
        | trace_state
    · have e : szL l = if l.all rgA = true then (if 65528 < smL l then 0 else smL l) else 0 := if_neg h64
      repeat' (intro t ht; first | (cases t <;> first | (cases ht; done) | ((try simp only [bn_s] at ht); (try simp only [nd_s] at ht); (try (exfalso; first | contradiction | omega)))) | (refine ht ?_ ?_ <;> clear ht) | (refine ht.1 ?_ ?_ <;> clear ht) | (refine ht ?_; clear ht))
      all_goals first
        | exact True.intro
        | (intro r h1 h2; clear h1; refine h2 ⟨[2, 9, 10, 11], Nat, (fun i => i ≤ l.length ∧ (l.take i).all rgA = true), fun i => [.int .i64 (smT l i), .imm (.cons (.int .i64) (.cons (.int .u64) (.cons (.int .u64) (.cons (.cons (.int .i64) (.cons (.int .i64) (.cons .bool (.cons (.int .u64) (.cons (.sl (.int .u8)) (.cons (.sl (.int .u8)) .nil)))))) (.cons (.sl (.int .u8)) .nil))))) l, .int .i64 l.length, .int .i64 i], fun _ => [], fun i => l.length - i, ⟨0, ⟨Nat.zero_le _, rfl⟩, rfl, rfl⟩, ?_⟩; clear h2)
        | trace_state
      rintro i ⟨hi, he⟩
      have hle := smT_le (l := l) i hi
      repeat' (intro t ht; first | (cases t <;> first | (cases ht; done) | ((try simp only [bn_s] at ht); (try simp only [nd_s] at ht); (try (exfalso; first | contradiction | omega)))) | (refine ht ?_ ?_ <;> clear ht) | (refine ht.1 ?_ ?_ <;> clear ht) | (refine ht ?_; clear ht))
      all_goals (try generalize (Ty.dflt (.cons (.int .i64) (.cons (.int .u64) (.cons (.int .u64) (.cons (.cons (.int .i64) (.cons (.int .i64) (.cons .bool (.cons (.int .u64) (.cons (.sl (.int .u8)) (.cons (.sl (.int .u8)) .nil)))))) (.cons (.sl (.int .u8)) .nil)))))) = od at *)
      all_goals first
        | exact True.intro
        | ((try simp only [nd_s, bn_s, mm_s] at *); omega)
        | (have ha := allT_end (by omega) he
           have hs := smT_end (l := l) (i := i) (by omega)
           rw [e, if_pos ha, ← hs]
           first
             | (rw [if_pos (by assumption)]; exact ⟨rfl, rfl⟩)
             | (rw [if_neg (by assumption)]; exact ⟨rfl, rfl⟩))
        | (have hlt : i < l.length := by omega
           have hln := hp.a _ (getD_mem' hlt od)
           have hsz := szA_le (l.getD i od)
           first
             | exact lenAM hln
             | (unfold szA at hsz; simp only [mm_s, Int.toNat_natCast]; omega)
             | (have h0 : szA (l.getD i od) = 0 := by assumption
                have hr : rgA (l.getD i od) = false := by
                  cases hk : rgA (l.getD i od) with
                  | false => rfl
                  | true => have := szA_1 hk; omega
                rw [e, if_neg (by rw [all_miss hlt hr]; decide)]; exact ⟨rfl, rfl⟩)
             | (have h0 : ¬ szA (l.getD i od) = 0 := by assumption
                have hr : rgA (l.getD i od) = true := by
                  cases hk : rgA (l.getD i od) with
                  | true => rfl
                  | false => exact absurd (szA_0 hk) h0
                refine ⟨i + 1, ⟨by omega, allT_step hlt he hr⟩, by dsimp only; omega, ?_, rfl⟩
                dsimp only; rw [smT_step (d := od) hlt]; rfl))
        | trace_state
  · cases e
def rgL (l : List AC) : Bool := decide (l.length = 0) || decide (0 < szL l)
def ir_acts_Right : IR :=
(.seq
(.keep [0]
(.reg (oD 2 (.mov cF) ::
[])))
(.seq
(.keep [0]
(.reg (oM 3 0 ::
oD 4 (.len (.t 3)) ::
oD 5 (.bin .eql (.t 4) (cI 0)) ::
oM 6 5 ::
oF 6 7 (.mov (.t 0)) ::
oF 6 8 (.call false (.f 139) [(.t 7)]) ::
oF 6 9 (.bin .gtr (.t 8) (cI 0)) ::
oD 10 (.pick (.t 6) cT (.t 9)) ::
oM 2 10 ::
[])))
.ret))
def rd_acts_Right : List RD := [.tmp 2 true none]
theorem ok_acts_Right : fnOk Tryz.prog Tryz.f138 ir_acts_Right rd_acts_Right = true := by kernel_rfl
def S_acts_Right : List AV → List Obj → Option (Prop × AV)
  | [.imm (.cons (.int .i64) (.cons (.int .u64) (.cons (.int .u64) (.cons (.cons (.int .i64) (.cons (.int .i64) (.cons .bool (.cons (.int .u64) (.cons (.sl (.int .u8)) (.cons (.sl (.int .u8)) .nil)))))) (.cons (.sl (.int .u8)) .nil))))) l], [] => some ((okL l, .bool (rgL l)))
  | _, _ => none
theorem snd_acts_Right : SoundS Tryz.prog 138 (RoF S_acts_Right).sum := by
  refine ro_fn Tryz.func138 ok_acts_Right (env_cons (s := RoF S_acts_Size) snd_acts_Size (env_nil _)) fun args objs p v e => ?_
  unfold S_acts_Right at e
  split at e
  · rename_i l
    cases e
    refine ⟨rfl, fun hw ho hp => ?_⟩
    change List AC at l
    clear hw ho
    have hok := hp
    by_cases h0 : l.length = 0
    · repeat' (intro t ht; first | (cases t <;> first | (cases ht; done) | ((try simp only [bn_s] at ht); (try simp only [nd_s] at ht); (try (exfalso; first | contradiction | omega)))) | (refine ht ?_ ?_ <;> clear ht) | (refine ht.1 ?_ ?_ <;> clear ht) | (refine ht ?_; clear ht))
      all_goals first
        | exact True.intro
        | exact hok
        | (refine ⟨congrArg AV.bool ?_, rfl⟩; unfold rgL; rw [decide_eq_true h0]; rfl)
        | (exfalso; omega)
        | trace_state
    · repeat' (intro t ht; first | (cases t <;> first | (cases ht; done) | ((try simp only [bn_s] at ht); (try simp only [nd_s] at ht); (try (exfalso; first | contradiction | omega)))) | (refine ht ?_ ?_ <;> clear ht) | (refine ht.1 ?_ ?_ <;> clear ht) | (refine ht ?_; clear ht))
      all_goals first
        | exact True.intro
        | exact hok
        | (refine ⟨congrArg AV.bool ?_, rfl⟩; unfold rgL; rw [decide_eq_false h0]; rfl)
        | (exfalso; omega)
        | trace_state
  · cases e
end Go.Eng
