/- Contracts of functions of the given program, told by plain Lean functions. No condition. -/
import Derived.Test.YtoejpijobbcooaaGreatDoorProg
import Derived.Test.YtoejpijobbcooaaGreatDoorEArg
import Derived.KernelRfl
import Derived.Test.YtoejpijobbcooaaGreatDoorA1
namespace Go.Eng
open Go.Proofs
set_option linter.unusedVariables false
set_option linter.unusedSimpArgs false
set_option maxRecDepth 100000
set_option maxHeartbeats 1000000
def bodyA (t a b : Int) (E d : List Int) : List Int := if t = 25 then E ++ List.replicate ((8 - (4 + E.length) % 8) % 8) 0 else putB (rowT t) (numsA t a b) ++ d
def encA (t a b : Int) (E d : List Int) : List Int := bytesN t 2 ++ bytesN (4 + (bodyA t a b E d).length) 2 ++ bodyA t a b E d
theorem row22 {a n : Int} (ha : 0 ≤ a ∧ a ≤ 65535) (hn : 0 ≤ n ∧ n ≤ 65535) : putB [2, 2] [a, n] = bytesN a 2 ++ bytesN n 2 ∧ putK [2, 2] [a, n] = true := by
  have e1 : a.fdiv (2 ^ 16) = 0 := by rw [Int.fdiv_eq_ediv_of_nonneg _ (by decide)]; omega
  have e2 : n.fdiv (2 ^ 16) = 0 := by rw [Int.fdiv_eq_ediv_of_nonneg _ (by decide)]; omega
  have h : putF [2, 2] [a, n] = some (bytesN a 2 ++ bytesN n 2) := by
    unfold putF
    rw [if_pos ⟨by decide, (by decide : countW [2, 2] = 2)⟩]
    have m : min (8 * (2 : Int)).toNat 64 = 16 := by decide
    simp only [putA, m]
    rw [if_neg (by decide), if_neg (by rintro ⟨_, h⟩; exact h e1), if_neg (by decide), if_neg (by rintro ⟨_, h⟩; exact h e2)]
    rfl
  unfold putB putK; rw [h]; exact ⟨rfl, rfl⟩
theorem buf_ok {x l : List Int} {room : Int} (h : (x.length : Int) ≤ room - l.length) : bufB x l room 0 = l ++ x ∧ bufE x l room 0 = 0 := by
  have hb : bufOk x l room 0 = true := by unfold bufOk; rw [decide_eq_true h]; rfl
  exact ⟨by unfold bufB; rw [if_pos hb], by unfold bufE; rw [if_pos rfl, if_pos h]⟩
theorem row_ok {w xs l : List Int} {room : Int} (hk : putK w xs = true) (h : ((putB w xs).length : Int) ≤ room - l.length) : rowB w xs l room 0 = l ++ putB w xs ∧ rowE w xs l room 0 = 0 := by
  unfold rowB rowE; rw [if_pos hk, if_pos hk]; exact buf_ok h
theorem putB_size {w xs : List Int} (hk : putK w xs = true) : ((putB w xs).length : Int) = sizeW w := by
  unfold putK at hk
  obtain ⟨r, hr⟩ := Option.isSome_iff_exists.1 hk
  have hb : putB w xs = r := by unfold putB; rw [hr]; rfl
  rw [hb]
  unfold putF at hr
  split at hr
  · rename_i h
    have := putA_len w xs [] r (rightF_t.1 h.1).2 hr
    unfold sizeW; rw [if_pos h.1, this]; simp
  · cases hr
theorem evZ_8 (n : Nat) : evZ 8 n = List.replicate ((8 - n % 8) % 8) 0 := by
  unfold evZ; congr 1
  have h1 : (n : Int).tmod 8 = (n : Int) % 8 := Int.tmod_eq_emod_of_nonneg (by omega)
  rw [h1, Int.tmod_eq_emod_of_nonneg (by omega)]; omega
/-- What may be, told by its parts. -/
theorem rightA_25 {R : Bool} {t a b c f : Int} {h : Bool} {x : Int} {v m d : List Int} (ht : t = 25) (hr : rightA R t a b c f h x v m d = true) : a = 0 ∧ b = 0 ∧ d = [] ∧ c = 32768 ∧ h = false ∧ settF f = true ∧ R = true := by
  unfold rightA at hr; rw [if_pos ht] at hr
  simp only [Bool.and_eq_true, decide_eq_true_eq, Bool.not_eq_true'] at hr
  obtain ⟨⟨⟨h1, h2⟩, h3⟩, ⟨⟨h4, h5⟩, h6⟩, h7⟩ := hr
  exact ⟨h1, h2, List.eq_nil_of_length_eq_zero h3, h4, h5, h6, h7⟩
theorem rightA_row {R : Bool} {t a b c f : Int} {h : Bool} {x : Int} {v m d : List Int} (ht : ¬ t = 25) (hr : rightA R t a b c f h x v m d = true) : rowK t = true ∧ sameO c f h x v m 0 0 false 0 [] [] = true ∧ askF t a = 0 ∧ putK (rowT t) (numsA t a b) = true ∧ (2 ≤ countW (rowT t) ∨ b = 0) ∧ (1 ≤ countW (rowT t) ∨ a = 0) ∧ ((t = 65535 ∧ (d.length : Int).tmod 8 = 0 ∧ (d.length : Int) ≤ 65520) ∨ (¬ t = 65535 ∧ d = [])) := by
  unfold rightA at hr; rw [if_neg ht] at hr
  simp only [Bool.and_eq_true, Bool.or_eq_true, decide_eq_true_eq] at hr
  obtain ⟨⟨⟨⟨⟨⟨h1, h2⟩, h3⟩, h4⟩, h5⟩, h6⟩, h7⟩ := hr
  refine ⟨h1, h2, h3, h4, h5, h6, ?_⟩
  split at h7
  · rename_i h8
    simp only [Bool.and_eq_true, decide_eq_true_eq] at h7; exact .inl ⟨h8, h7⟩
  · rename_i h8
    simp only [decide_eq_true_eq] at h7; exact .inr ⟨h8, List.eq_nil_of_length_eq_zero h7⟩
theorem sizeO_right {c f : Int} {h : Bool} {x : Int} {v m : List Int} (hr : rightO c f h x v m = true) : sizeO c f h x v m = (encO c f h x v m).length ∧ (encO c f h x v m).length ≤ 300 := by
  have h1 : sizeO c f h x v m = ((refB c f h x v m).length : Int) := by rw [size_law, if_pos hr]
  have hrn := right_nums hr
  have hl2 := bytesN_len (n := c) (w := 2) (by decide)
  have : ((refB c f h x v m).length : Int) = 4 + restO c v m := by
    rw [hrn.2.2.2.2.2.2.2]; unfold refB; simp only [List.length_append, List.length_cons, List.length_nil]; omega
  rw [enc_law hr]
  exact ⟨h1, by omega⟩
theorem type_le {t : Int} (h : rowK t = true ∨ t = 25) : 0 ≤ t ∧ t ≤ 65535 := by
  rcases h with h | h
  · have := rowK_t h; omega
  · omega
theorem sizeA_len {t a b c f : Int} {h : Bool} {x : Int} {v m d : List Int} (hr : rightA (rightO c f h x v m) t a b c f h x v m d = true) : sizeA (rightO c f h x v m) (sizeO c f h x v m) t a b c f h x v m d = 4 + ((bodyA t a b (encO c f h x v m) d).length : Int) ∧ (bodyA t a b (encO c f h x v m) d).length ≤ 65524 ∧ (4 + (bodyA t a b (encO c f h x v m) d).length) % 8 = 0 ∧ 8 ≤ 4 + (bodyA t a b (encO c f h x v m) d).length := by
  unfold sizeA bodyA
  rw [if_pos hr]
  by_cases ht : t = 25
  · rw [if_pos ht, if_pos ht]
    obtain ⟨_, _, _, _, _, _, hR⟩ := rightA_25 ht hr
    obtain ⟨e1, e2⟩ := sizeO_right hR
    have h4 : 4 ≤ (encO c f h x v m).length := by
      have : sizeO c f h x v m = 4 + restO c v m := by unfold sizeO; rw [if_pos hR]
      have hrest : 0 ≤ restO c v m := by unfold restO; split <;> omega
      omega
    rw [e1, List.length_append, List.length_replicate, Int.tdiv_eq_ediv_of_nonneg (by omega)]
    omega
  · rw [if_neg ht, if_neg ht]
    obtain ⟨k1, _, _, k4, _, _, k7⟩ := rightA_row ht hr
    have hs := putB_size k4
    have hz := siz_le t
    rw [List.length_append]
    have hq : sizeW (rowT t) = 4 ∨ sizeW (rowT t) = 12 := by
      have := rowK_t k1
      rcases this with rfl | (rfl | rfl | rfl) | (rfl | rfl) | (rfl | rfl | rfl | rfl) | (rfl | rfl | rfl | rfl | rfl | rfl) <;> decide
    rcases k7 with ⟨k8, k9, k10⟩ | ⟨_, rfl⟩
    · have : sizeW (rowT t) = 4 := by rw [k8]; decide
      rw [Int.tmod_eq_emod_of_nonneg (by omega)] at k9
      omega
    · simp only [List.length_nil]; omega
def ir_action_Encode : IR :=
(.seq
(.keep [0]
(.reg (⟨some 1, .boxv (.t 0), none⟩ ::
⟨some 2, .mov (.c (.imm (.int .u8) [])), none⟩ ::
⟨some 3, .mov (.c (.int .i64 0)), none⟩ ::
[])))
(.seq
(.seq
(.reg (⟨some 9, .load (some 10) (.t 1), none⟩ ::
⟨some 10, .call false (.f 12) [(.t 9)], none⟩ ::
⟨some 11, .un .not (.t 10), none⟩ ::
[]))
(.cond (.t 11)
(.seq
(.keep []
(.reg (⟨some 2, .mov (.c (.imm (.int .u8) [])), none⟩ ::
⟨some 3, .mov (.c (.int .i64 10001)), none⟩ ::
[])))
.ret)
.skip))
(.seq
(.keep [1]
(.reg (⟨some 12, .load (some 10) (.t 1), none⟩ ::
⟨some 13, .call false (.f 13) [(.t 12)], none⟩ ::
⟨some 14, .call false (.f 22) [(.t 13)], none⟩ ::
⟨some 4, .mov (.t 14), none⟩ ::
[])))
(.seq
(.keep [1, 4]
(.regD ((⟨some 15, .mov (.t 4), none⟩, []) ::
(⟨some 16, .sliceAll (.int .i64) 2 [(0, 1, (.c (.int .i64 2))), (1, 1, (.c (.int .i64 2)))], none⟩, [0]) ::
(⟨some 17, .fieldAddr 0 (.t 1), none⟩, [0, 0]) ::
(⟨some 18, .load none (.t 17), none⟩, [1, 0]) ::
(⟨some 19, .conv .u64 (.t 18), none⟩, [2, 0]) ::
(⟨some 20, .load (some 10) (.t 1), none⟩, [0, 0, 0, 0, 0]) ::
(⟨some 21, .call false (.f 13) [(.t 20)], none⟩, [1, 0, 0, 0, 0]) ::
(⟨some 22, .conv .u64 (.t 21), none⟩, [2, 0, 0, 0, 0]) ::
(⟨some 23, .sliceAll (.int .u64) 2 [(0, 1, (.t 19)), (1, 1, (.t 22))], none⟩, [6, 0]) ::
(⟨some 24, .call false (.f 38) [(.t 15), (.t 16), (.t 23)], none⟩, []) ::
[])))
(.seq
(.seq
(.keep [1, 4]
(.reg (⟨some 25, .fieldAddr 0 (.t 1), none⟩ ::
⟨some 26, .load none (.t 25), none⟩ ::
⟨some 27, .bin .eql (.t 26) (.c (.int .i64 25)), none⟩ ::
[])))
(.cond (.t 27)
(.seq
(.keep [1, 4]
(.reg (⟨some 29, .fieldAddr 3 (.t 1), none⟩ ::
⟨some 30, .load (some 6) (.t 29), none⟩ ::
⟨some 31, .call false (.f 39) [(.t 30)], none⟩ ::
⟨some 28, .mov (.t 31), none⟩ ::
⟨some 32, .extract (.t 28) 0, none⟩ ::
⟨some 33, .extract (.t 28) 1, none⟩ ::
⟨some 5, .mov (.t 32), none⟩ ::
⟨some 6, .mov (.t 33), none⟩ ::
[])))
(.seq
(.keep [4, 5]
(.reg (⟨some 34, .mov (.t 4), none⟩ ::
⟨some 35, .mov (.t 5), none⟩ ::
⟨some 36, .call false (.f 23) [(.t 34), (.t 35)], none⟩ ::
[])))
(.seq
(.reg (⟨some 37, .mov (.t 4), none⟩ ::
⟨some 38, .call false (.f 40) [(.t 37), (.c (.int .i64 8))], none⟩ ::
[]))
(.seq
(.keep [4]
(.reg (⟨some 39, .mov (.t 4), none⟩ ::
⟨some 40, .call false (.f 25) [(.t 39)], none⟩ ::
⟨some 41, .extract (.t 40) 0, none⟩ ::
⟨some 42, .extract (.t 40) 1, none⟩ ::
⟨some 2, .mov (.t 41), none⟩ ::
⟨some 3, .mov (.t 42), none⟩ ::
[])))
.ret))))
.skip))
(.seq
(.keep [1, 4]
(.reg (⟨some 44, .fieldAddr 0 (.t 1), none⟩ ::
⟨some 45, .load none (.t 44), none⟩ ::
⟨some 46, .call false (.f 41) [(.t 45)], none⟩ ::
⟨some 43, .mov (.t 46), none⟩ ::
⟨some 47, .extract (.t 43) 0, none⟩ ::
⟨some 48, .extract (.t 43) 1, none⟩ ::
⟨some 7, .mov (.t 47), none⟩ ::
⟨some 8, .mov (.t 48), none⟩ ::
[])))
(.seq
(.keep [1, 4, 7]
(.regD ((⟨some 49, .mov (.t 4), none⟩, []) ::
(⟨some 50, .mov (.t 7), none⟩, [0]) ::
(⟨some 51, .fieldAddr 1 (.t 1), none⟩, [0, 0]) ::
(⟨some 52, .load none (.t 51), none⟩, [1, 0]) ::
(⟨some 53, .fieldAddr 2 (.t 1), none⟩, [0, 0, 0, 0]) ::
(⟨some 54, .load none (.t 53), none⟩, [1, 0, 0, 0]) ::
(⟨some 55, .sliceAll (.int .u64) 2 [(0, 1, (.t 52)), (1, 1, (.t 54))], none⟩, [4, 0]) ::
(⟨some 56, .mov (.t 7), none⟩, [0, 0, 0, 0, 0, 0, 0]) ::
(⟨some 57, .call false (.f 42) [(.t 56)], none⟩, [1, 0, 0, 0, 0, 0, 0]) ::
(⟨some 58, .slice 1 (.t 55) none (some (.t 57)) none, none⟩, [7, 0]) ::
(⟨some 59, .call false (.f 38) [(.t 49), (.t 50), (.t 58)], none⟩, []) ::
[])))
(.seq
(.keep [1, 4]
(.reg (⟨some 60, .mov (.t 4), none⟩ ::
⟨some 61, .fieldAddr 9 (.t 1), none⟩ ::
⟨some 62, .load none (.t 61), none⟩ ::
⟨some 63, .call false (.f 23) [(.t 60), (.t 62)], none⟩ ::
[])))
(.seq
(.keep [4]
(.reg (⟨some 64, .mov (.t 4), none⟩ ::
⟨some 65, .call false (.f 25) [(.t 64)], none⟩ ::
⟨some 66, .extract (.t 65) 0, none⟩ ::
⟨some 67, .extract (.t 65) 1, none⟩ ::
⟨some 2, .mov (.t 66), none⟩ ::
⟨some 3, .mov (.t 67), none⟩ ::
[])))
.ret)))))))))
def rd_action_Encode : List RD := [.tmp 2 true (some (.int .u8)), .tmp 3 true none]
theorem ok_action_Encode : fnOk Tryz.prog Tryz.f10 ir_action_Encode rd_action_Encode = true := by kernel_rfl
def S_action_Encode : List AV → List Obj → Option (Prop × AV)
  | [.agg [.int .i64 q, .int .u64 a, .int .u64 b, .int .i64 c, .int .i64 f, .bool h, .int .u64 x, .imm (.int .u8) v, .imm (.int .u8) m, .imm (.int .u8) d]], [] => some ((v.length ≤ 1000000 ∧ m.length ≤ 1000000, .tup [.imm (.int .u8) (if rightA (rightO c f h x v m) q a b c f h x v m d = true then encA q a b (encO c f h x v m) d else []), .int .i64 (if rightA (rightO c f h x v m) q a b c f h x v m d = true then 0 else 10001)]))
  | _, _ => none
theorem snd_action_Encode : SoundS Tryz.prog 10 (RoF S_action_Encode).sum := by
  refine ro_fn Tryz.func10 ok_action_Encode (env_cons (s := RoF S_action_Right) snd_action_Right (env_cons (s := RoF S_action_Size) snd_action_Size (env_cons (s := RwF S_buffer_New) snd_buffer_New (env_cons (s := RwF S_buffer_Buffer_Row) snd_buffer_Buffer_Row (env_cons (s := RoF S_oxm_Encode) snd_oxm_Encode (env_cons (s := RwF S_buffer_Buffer_Bytes) snd_buffer_Buffer_Bytes (env_cons (s := RwF S_buffer_Buffer_Even) snd_buffer_Buffer_Even (env_cons (s := RwF S_buffer_Buffer_Done) snd_buffer_Buffer_Done (env_cons (s := RoF S_action_rows) snd_action_rows (env_cons (s := RoF S_row_Count) snd_row_Count (env_nil _))))))))))) fun args objs p v e => ?_
  unfold S_action_Encode at e
  split at e
  · rename_i q a b c f h x v m d
    cases e
    refine ⟨rfl, fun hw ho hp => ?_⟩
    change List Int at v
    change List Int at m
    change List Int at d
    clear hw ho
    cases hr : rightA (rightO c f h x v m) q a b c f h x v m d with
    | false =>
      repeat' (intro t ht; first | (cases t <;> first | (cases ht; done) | ((try simp only [Bool.not_eq_eq_eq_not, Bool.not_true, Bool.not_false, Bool.and_eq_true, Bool.and_eq_false_iff, decide_eq_true_eq, decide_eq_false_iff_not] at ht); (try simp only [Int.toNat_natCast, dflt_int] at ht); (try (exfalso; first | contradiction | omega)))) | (refine ht ?_ ?_ <;> clear ht) | (refine ht.1 ?_ ?_ <;> clear ht) | (refine ht ?_; clear ht))
      all_goals first
        | exact True.intro
        | exact hp
        | (exfalso; simp_all; done)
        | exact ⟨rfl, rfl⟩
        | trace_state
    | true =>
      obtain ⟨hS, hS1, hS2, hS3⟩ := sizeA_len hr
      obtain ⟨S, hSd⟩ : ∃ S, sizeA (rightO c f h x v m) (sizeO c f h x v m) q a b c f h x v m d = S := ⟨_, rfl⟩
      rw [hSd] at hS
      have hroom : roomF S = S := room_id (by omega) (by omega)
      have hfl : (encA q a b (encO c f h x v m) d).length = 4 + (bodyA q a b (encO c f h x v m) d).length := by
        unfold encA
        have g2 := bytesN_len (n := q) (w := 2) (by decide)
        have g3 := bytesN_len (n := (4 + (bodyA q a b (encO c f h x v m) d).length)) (w := 2) (by decide)
        simp only [List.length_append]; omega
      have hcn := cnt_le q
      by_cases h25 : q = 25
      · have ht := type_le (.inr h25)
        obtain ⟨r1, r2⟩ := row22 ht (show 0 ≤ S ∧ S ≤ 65535 by omega)
        have l2 := bytesN_len (n := q) (w := 2) (by decide)
        have l3 := bytesN_len (n := S) (w := 2) (by decide)
        obtain ⟨w1, w2⟩ := row_ok (l := []) (room := S) r2 (by rw [r1, List.length_append, List.length_nil]; omega)
        rw [List.nil_append, r1] at w1
        obtain ⟨_, _, _, _, _, _, hR⟩ := rightA_25 h25 hr
        obtain ⟨e1, e2⟩ := sizeO_right hR
        have hB : bodyA q a b (encO c f h x v m) d = encO c f h x v m ++ List.replicate ((8 - (4 + (encO c f h x v m).length) % 8) % 8) 0 := if_pos h25
        have hBl : (bodyA q a b (encO c f h x v m) d).length = (encO c f h x v m).length + (8 - (4 + (encO c f h x v m).length) % 8) % 8 := by rw [hB, List.length_append, List.length_replicate]
        obtain ⟨u1, u2⟩ := buf_ok (x := encO c f h x v m) (l := bytesN q 2 ++ bytesN S 2) (room := S) (by rw [List.length_append]; omega)
        have hlen : (bytesN q 2 ++ bytesN S 2 ++ encO c f h x v m).length = 4 + (encO c f h x v m).length := by simp only [List.length_append]; omega
        have hz := evZ_8 (4 + (encO c f h x v m).length)
        obtain ⟨y1, y2⟩ := buf_ok (x := List.replicate ((8 - (4 + (encO c f h x v m).length) % 8) % 8) (0 : Int)) (l := bytesN q 2 ++ bytesN S 2 ++ encO c f h x v m) (room := S) (by rw [hlen, List.length_replicate]; omega)
        have hfin : encA q a b (encO c f h x v m) d = bytesN q 2 ++ bytesN S 2 ++ encO c f h x v m ++ List.replicate ((8 - (4 + (encO c f h x v m).length) % 8) % 8) (0 : Int) := by
          unfold encA; rw [← hS, hB]; simp only [List.append_assoc]
        repeat' (intro t ht; first | (cases t <;> first | (cases ht; done) | ((try simp only [Bool.not_eq_eq_eq_not, Bool.not_true, Bool.not_false, Bool.and_eq_true, Bool.and_eq_false_iff, decide_eq_true_eq, decide_eq_false_iff_not] at ht); (try simp only [Int.toNat_natCast, dflt_int] at ht); (try (exfalso; first | contradiction | omega)))) | (refine ht ?_ ?_ <;> clear ht) | (refine ht.1 ?_ ?_ <;> clear ht) | (refine ht ?_; clear ht))
        all_goals (try simp only [hSd] at *)
        all_goals (try simp only [hroom, w1, w2, hR, if_true, u1, u2, hlen, hz, y1, y2, ← hfin] at *)
        all_goals first
          | exact True.intro
          | exact hp
          | omega
          | ((try simp only [Int.toNat_natCast, dflt_int, decide_eq_true_eq, decide_eq_false_iff_not, Bool.not_eq_eq_eq_not, Bool.not_true, Bool.not_false, Bool.and_eq_true, Bool.and_eq_false_iff, min_i64, max_i64, min_u64, max_u64, min_u32, max_u32, min_u16, max_u16, min_u8, max_u8] at *); omega)
          | exact ⟨by omega, by omega, by simp only [List.length_nil]; omega⟩
          | exact ⟨by omega, by omega, by simp only [List.length_append]; omega, by omega⟩
          | exact ⟨by omega, by omega, by omega, by decide, by decide⟩
          | exact ⟨by omega, by decide⟩
          | (constructor <;> (simp only [List.length_append, List.length_replicate, List.length_nil]; omega))
          | (unfold doneL doneE doneB; exact ⟨rfl, by first | rfl | exact True.intro⟩)
          | (exfalso; simp_all; done)
          | trace_state
      · obtain ⟨k1, k2, k3, k4, k5, k6, k7⟩ := rightA_row h25 hr
        have ht := type_le (.inl k1)
        obtain ⟨r1, r2⟩ := row22 ht (show 0 ≤ S ∧ S ≤ 65535 by omega)
        have l2 := bytesN_len (n := q) (w := 2) (by decide)
        have l3 := bytesN_len (n := S) (w := 2) (by decide)
        obtain ⟨w1, w2⟩ := row_ok (l := []) (room := S) r2 (by rw [r1, List.length_append, List.length_nil]; omega)
        rw [List.nil_append, r1] at w1
        have hB : bodyA q a b (encO c f h x v m) d = putB (rowT q) (numsA q a b) ++ d := if_neg h25
        have hBl : (bodyA q a b (encO c f h x v m) d).length = (putB (rowT q) (numsA q a b)).length + d.length := by rw [hB, List.length_append]
        obtain ⟨u1, u2⟩ := row_ok (l := bytesN q 2 ++ bytesN S 2) (room := S) k4 (by rw [List.length_append]; omega)
        unfold numsA at u1 u2 k4 hB hBl
        obtain ⟨y1, y2⟩ := buf_ok (x := d) (l := bytesN q 2 ++ bytesN S 2 ++ putB (rowT q) ([a, b].take (countW (rowT q)).toNat)) (room := S) (by simp only [List.length_append]; omega)
        have hfin : encA q a b (encO c f h x v m) d = bytesN q 2 ++ bytesN S 2 ++ putB (rowT q) ([a, b].take (countW (rowT q)).toNat) ++ d := by
          unfold encA; rw [← hS, hB]; simp only [List.append_assoc]
        repeat' (intro t ht; first | (cases t <;> first | (cases ht; done) | ((try simp only [Bool.not_eq_eq_eq_not, Bool.not_true, Bool.not_false, Bool.and_eq_true, Bool.and_eq_false_iff, decide_eq_true_eq, decide_eq_false_iff_not] at ht); (try simp only [Int.toNat_natCast, dflt_int] at ht); (try (exfalso; first | contradiction | omega)))) | (refine ht ?_ ?_ <;> clear ht) | (refine ht.1 ?_ ?_ <;> clear ht) | (refine ht ?_; clear ht))
        all_goals (try simp only [hSd] at *)
        all_goals (try simp only [hroom, w1, w2, u1, u2, y1, y2, ← hfin] at *)
        all_goals first
          | exact True.intro
          | exact hp
          | omega
          | ((try simp only [Int.toNat_natCast, dflt_int, decide_eq_true_eq, decide_eq_false_iff_not, Bool.not_eq_eq_eq_not, Bool.not_true, Bool.not_false, Bool.and_eq_true, Bool.and_eq_false_iff, min_i64, max_i64, min_u64, max_u64, min_u32, max_u32, min_u16, max_u16, min_u8, max_u8] at *); omega)
          | exact ⟨by omega, by omega, by simp only [List.length_nil]; omega⟩
          | exact ⟨by omega, by omega, by simp only [List.length_append]; omega⟩
          | exact ⟨by omega, by omega, by simp only [List.length_append]; omega, by omega⟩
          | exact ⟨by omega, by decide⟩
          | (constructor <;> (simp only [List.length_append, List.length_nil]; omega))
          | (unfold doneL doneE doneB; exact ⟨rfl, by first | rfl | exact True.intro⟩)
          | (exfalso; simp_all; done)
          | trace_state
  · cases e
end Go.Eng
