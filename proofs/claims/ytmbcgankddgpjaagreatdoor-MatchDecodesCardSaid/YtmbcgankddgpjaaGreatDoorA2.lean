/- Contracts of functions of the given program, told by plain Lean functions. No condition. -/
import Derived.Test.YtmbcgankddgpjaaGreatDoorProg
import Derived.Test.YtmbcgankddgpjaaGreatDoorEArg
import Derived.KernelRfl
import Derived.Test.YtmbcgankddgpjaaGreatDoorA1
namespace Go.Eng
open Go.Proofs
set_option linter.unusedVariables false
set_option linter.unusedSimpArgs false
set_option maxRecDepth 100000
set_option maxHeartbeats 1000000
def bodyA (t a b : Int) (E d : List Int) : List Int := if t = 25 then E ++ List.replicate ((8 - (4 + E.length) % 8) % 8) 0 else putB (rowT t) (numsA t a b) ++ d
def encA (t a b : Int) (E d : List Int) : List Int := bytesN t 2 ++ bytesN (4 + (bodyA t a b E d).length) 2 ++ bodyA t a b E d
theorem row22 {a n : Int} (ha : 0 ≤ a ∧ a ≤ 65535) (hn : 0 ≤ n ∧ n ≤ 65535) : putB [2, 2] [a, n] = bytesN a 2 ++ bytesN n 2 ∧ putK [2, 2] [a, n] = true := by
  have e1 : a.fdiv (2 ^ 16) = 0 := by rw [Int.fdiv_eq_ediv_of_nonneg _ (by decide)]; omega
  have e2 : n.fdiv (2 ^ 16) = 0 := by rw [Int.fdiv_eq_ediv_of_nonneg _ (by decide)]; omega
  have h : putF [2, 2] [a, n] = some (bytesN a 2 ++ bytesN n 2) := by
    unfold putF
    rw [if_pos ⟨by decide, (by decide : countW [2, 2] = 2)⟩]
    have m : min (8 * (2 : Int)).toNat 64 = 16 := by decide
    simp only [putA, m]
    rw [if_neg (by decide), if_neg (by rintro ⟨_, h⟩; exact h e1), if_neg (by decide), if_neg (by rintro ⟨_, h⟩; exact h e2)]
    rfl
  unfold putB putK; rw [h]; exact ⟨rfl, rfl⟩
theorem buf_ok {x l : List Int} {room : Int} (h : (x.length : Int) ≤ room - l.length) : bufB x l room 0 = l ++ x ∧ bufE x l room 0 = 0 := by
  have hb : bufOk x l room 0 = true := by unfold bufOk; rw [decide_eq_true h]; rfl
  exact ⟨by unfold bufB; rw [if_pos hb], by unfold bufE; rw [if_pos rfl, if_pos h]⟩
theorem row_ok {w xs l : List Int} {room : Int} (hk : putK w xs = true) (h : ((putB w xs).length : Int) ≤ room - l.length) : rowB w xs l room 0 = l ++ putB w xs ∧ rowE w xs l room 0 = 0 := by
  unfold rowB rowE; rw [if_pos hk, if_pos hk]; exact buf_ok h
theorem putB_size {w xs : List Int} (hk : putK w xs = true) : ((putB w xs).length : Int) = sizeW w := by
  unfold putK at hk
  obtain ⟨r, hr⟩ := Option.isSome_iff_exists.1 hk
  have hb : putB w xs = r := by unfold putB; rw [hr]; rfl
  rw [hb]
  unfold putF at hr
  split at hr
  · rename_i h
    have := putA_len w xs [] r (rightF_t.1 h.1).2 hr
    unfold sizeW; rw [if_pos h.1, this]; simp
  · cases hr
theorem evZ_8 (n : Nat) : evZ 8 n = List.replicate ((8 - n % 8) % 8) 0 := by
  unfold evZ; congr 1
  have h1 : (n : Int).tmod 8 = (n : Int) % 8 := Int.tmod_eq_emod_of_nonneg (by omega)
  rw [h1, Int.tmod_eq_emod_of_nonneg (by omega)]; omega
/-- What may be, told by its parts. -/
theorem rightA_25 {R : Bool} {t a b c f : Int} {h : Bool} {x : Int} {v m d : List Int} (ht : t = 25) (hr : rightA R t a b c f h x v m d = true) : a = 0 ∧ b = 0 ∧ d = [] ∧ c = 32768 ∧ h = false ∧ settF f = true ∧ R = true := by
  unfold rightA at hr; rw [if_pos ht] at hr
  simp only [Bool.and_eq_true, decide_eq_true_eq, Bool.not_eq_true'] at hr
  obtain ⟨⟨⟨h1, h2⟩, h3⟩, ⟨⟨h4, h5⟩, h6⟩, h7⟩ := hr
  exact ⟨h1, h2, List.eq_nil_of_length_eq_zero h3, h4, h5, h6, h7⟩
theorem rightA_row {R : Bool} {t a b c f : Int} {h : Bool} {x : Int} {v m d : List Int} (ht : ¬ t = 25) (hr : rightA R t a b c f h x v m d = true) : rowK t = true ∧ sameO c f h x v m 0 0 false 0 [] [] = true ∧ askF t a = 0 ∧ putK (rowT t) (numsA t a b) = true ∧ (2 ≤ countW (rowT t) ∨ b = 0) ∧ (1 ≤ countW (rowT t) ∨ a = 0) ∧ ((t = 65535 ∧ (d.length : Int).tmod 8 = 0 ∧ (d.length : Int) ≤ 65520) ∨ (¬ t = 65535 ∧ d = [])) := by
  unfold rightA at hr; rw [if_neg ht] at hr
  simp only [Bool.and_eq_true, Bool.or_eq_true, decide_eq_true_eq] at hr
  obtain ⟨⟨⟨⟨⟨⟨h1, h2⟩, h3⟩, h4⟩, h5⟩, h6⟩, h7⟩ := hr
  refine ⟨h1, h2, h3, h4, h5, h6, ?_⟩
  split at h7
  · rename_i h8
    simp only [Bool.and_eq_true, decide_eq_true_eq] at h7; exact .inl ⟨h8, h7⟩
  · rename_i h8
    simp only [decide_eq_true_eq] at h7; exact .inr ⟨h8, List.eq_nil_of_length_eq_zero h7⟩
theorem sizeO_right {c f : Int} {h : Bool} {x : Int} {v m : List Int} (hr : rightO c f h x v m = true) : sizeO c f h x v m = (encO c f h x v m).length ∧ (encO c f h x v m).length ≤ 300 := by
  have h1 : sizeO c f h x v m = ((refB c f h x v m).length : Int) := by rw [size_law, if_pos hr]
  have hrn := right_nums hr
  have hl2 := bytesN_len (n := c) (w := 2) (by decide)
  have : ((refB c f h x v m).length : Int) = 4 + restO c v m := by
    rw [hrn.2.2.2.2.2.2.2]; unfold refB; simp only [List.length_append, List.length_cons, List.length_nil]; omega
  rw [enc_law hr]
  exact ⟨h1, by omega⟩
theorem type_le {t : Int} (h : rowK t = true ∨ t = 25) : 0 ≤ t ∧ t ≤ 65535 := by
  rcases h with h | h
  · have := rowK_t h; omega
  · omega
theorem sizeA_len {t a b c f : Int} {h : Bool} {x : Int} {v m d : List Int} (hr : rightA (rightO c f h x v m) t a b c f h x v m d = true) : sizeA (rightO c f h x v m) (sizeO c f h x v m) t a b c f h x v m d = 4 + ((bodyA t a b (encO c f h x v m) d).length : Int) ∧ (bodyA t a b (encO c f h x v m) d).length ≤ 65524 ∧ (4 + (bodyA t a b (encO c f h x v m) d).length) % 8 = 0 ∧ 8 ≤ 4 + (bodyA t a b (encO c f h x v m) d).length := by
  unfold sizeA bodyA
  rw [if_pos hr]
  by_cases ht : t = 25
  · rw [if_pos ht, if_pos ht]
    obtain ⟨_, _, _, _, _, _, hR⟩ := rightA_25 ht hr
    obtain ⟨e1, e2⟩ := sizeO_right hR
    have h4 : 4 ≤ (encO c f h x v m).length := by
      have : sizeO c f h x v m = 4 + restO c v m := by unfold sizeO; rw [if_pos hR]
      have hrest : 0 ≤ restO c v m := by unfold restO; split <;> omega
      omega
    rw [e1, List.length_append, List.length_replicate, Int.tdiv_eq_ediv_of_nonneg (by omega)]
    omega
  · rw [if_neg ht, if_neg ht]
    obtain ⟨k1, _, _, k4, _, _, k7⟩ := rightA_row ht hr
    have hs := putB_size k4
    have hz := siz_le t
    rw [List.length_append]
    have hq : sizeW (rowT t) = 4 ∨ sizeW (rowT t) = 12 := by
      have := rowK_t k1
      rcases this with rfl | (rfl | rfl | rfl) | (rfl | rfl) | (rfl | rfl | rfl | rfl) | (rfl | rfl | rfl | rfl | rfl | rfl) <;> decide
    rcases k7 with ⟨k8, k9, k10⟩ | ⟨_, rfl⟩
    · have : sizeW (rowT t) = 4 := by rw [k8]; decide
      rw [Int.tmod_eq_emod_of_nonneg (by omega)] at k9
      omega
    · simp only [List.length_nil]; omega
def ir_action_Encode : IR :=
(.seq
(.keep [0]
(.reg (oD 1 (.boxv (.t 0)) ::
oD 2 (.mov (.c (.imm (.int .u8) []))) ::
oD 3 (.mov (cI 0)) ::
[])))
(.seq
(.seq
(.reg (oD 9 (.load (some 10) (.t 1)) ::
oD 10 (.call false (.f 110) [(.t 9)]) ::
oD 11 (.un .not (.t 10)) ::
[]))
(.cond (.t 11)
(.seq
(.keep []
(.reg (oD 2 (.mov (.c (.imm (.int .u8) []))) ::
oD 3 (.mov (cI 10001)) ::
[])))
.ret)
.skip))
(.seq
(.keep [1]
(.reg (oD 12 (.load (some 10) (.t 1)) ::
oD 13 (.call false (.f 100) [(.t 12)]) ::
oD 14 (.call false (.f 20) [(.t 13)]) ::
oM 4 14 ::
[])))
(.seq
(.keep [1, 4]
(.regD ((oM 15 4, []) ::
(oD 16 (.sliceAll (.int .i64) 2 [(0, 1, (cI 2)), (1, 1, (cI 2))]), [0]) ::
(oD 17 (.fieldAddr 0 (.t 1)), [0, 0]) ::
(oL 18 17, [1, 0]) ::
(oD 19 (.conv .u64 (.t 18)), [2, 0]) ::
(oD 20 (.load (some 10) (.t 1)), [0, 0, 0, 0, 0]) ::
(oD 21 (.call false (.f 100) [(.t 20)]), [1, 0, 0, 0, 0]) ::
(oD 22 (.conv .u64 (.t 21)), [2, 0, 0, 0, 0]) ::
(oD 23 (.sliceAll (.int .u64) 2 [(0, 1, (.t 19)), (1, 1, (.t 22))]), [6, 0]) ::
(oD 24 (.call false (.f 74) [(.t 15), (.t 16), (.t 23)]), []) ::
[])))
(.seq
(.seq
(.keep [1, 4]
(.reg (oD 25 (.fieldAddr 0 (.t 1)) ::
oL 26 25 ::
oD 27 (.bin .eql (.t 26) (cI 25)) ::
[])))
(.cond (.t 27)
(.seq
(.keep [1, 4]
(.reg (oD 29 (.fieldAddr 3 (.t 1)) ::
oD 30 (.load (some 6) (.t 29)) ::
oD 31 (.call false (.f 75) [(.t 30)]) ::
oM 28 31 ::
oD 32 (.extract (.t 28) 0) ::
oD 33 (.extract (.t 28) 1) ::
oM 5 32 ::
oM 6 33 ::
[])))
(.seq
(.keep [4, 5]
(.reg (oM 34 4 ::
oM 35 5 ::
oD 36 (.call false (.f 21) [(.t 34), (.t 35)]) ::
[])))
(.seq
(.reg (oM 37 4 ::
oD 38 (.call false (.f 140) [(.t 37), (cI 8)]) ::
[]))
(.seq
(.keep [4]
(.reg (oM 39 4 ::
oD 40 (.call false (.f 23) [(.t 39)]) ::
oD 41 (.extract (.t 40) 0) ::
oD 42 (.extract (.t 40) 1) ::
oM 2 41 ::
oM 3 42 ::
[])))
.ret))))
.skip))
(.seq
(.keep [1, 4]
(.reg (oD 44 (.fieldAddr 0 (.t 1)) ::
oL 45 44 ::
oD 46 (.call false (.f 141) [(.t 45)]) ::
oM 43 46 ::
oD 47 (.extract (.t 43) 0) ::
oD 48 (.extract (.t 43) 1) ::
oM 7 47 ::
oM 8 48 ::
[])))
(.seq
(.keep [1, 4, 7]
(.regD ((oM 49 4, []) ::
(oM 50 7, [0]) ::
(oD 51 (.fieldAddr 1 (.t 1)), [0, 0]) ::
(oL 52 51, [1, 0]) ::
(oD 53 (.fieldAddr 2 (.t 1)), [0, 0, 0, 0]) ::
(oL 54 53, [1, 0, 0, 0]) ::
(oD 55 (.sliceAll (.int .u64) 2 [(0, 1, (.t 52)), (1, 1, (.t 54))]), [4, 0]) ::
(oM 56 7, [0, 0, 0, 0, 0, 0, 0]) ::
(oD 57 (.call false (.f 142) [(.t 56)]), [1, 0, 0, 0, 0, 0, 0]) ::
(oD 58 (.slice 1 (.t 55) none (some (.t 57)) none), [7, 0]) ::
(oD 59 (.call false (.f 74) [(.t 49), (.t 50), (.t 58)]), []) ::
[])))
(.seq
(.keep [1, 4]
(.reg (oM 60 4 ::
oD 61 (.fieldAddr 9 (.t 1)) ::
oL 62 61 ::
oD 63 (.call false (.f 21) [(.t 60), (.t 62)]) ::
[])))
(.seq
(.keep [4]
(.reg (oM 64 4 ::
oD 65 (.call false (.f 23) [(.t 64)]) ::
oD 66 (.extract (.t 65) 0) ::
oD 67 (.extract (.t 65) 1) ::
oM 2 66 ::
oM 3 67 ::
[])))
.ret)))))))))
def rd_action_Encode : List RD := [.tmp 2 true (some (.int .u8)), .tmp 3 true none]
theorem ok_action_Encode : fnOk Tryz.prog Tryz.f99 ir_action_Encode rd_action_Encode = true := by kernel_rfl
def S_action_Encode : List AV → List Obj → Option (Prop × AV)
  | [.agg [.int .i64 q, .int .u64 a, .int .u64 b, .int .i64 c, .int .i64 f, .bool h, .int .u64 x, .imm (.int .u8) v, .imm (.int .u8) m, .imm (.int .u8) d]], [] => some ((v.length ≤ 1000000 ∧ m.length ≤ 1000000, .tup [.imm (.int .u8) (if rightA (rightO c f h x v m) q a b c f h x v m d = true then encA q a b (encO c f h x v m) d else []), .int .i64 (if rightA (rightO c f h x v m) q a b c f h x v m d = true then 0 else 10001)]))
  | _, _ => none
theorem snd_action_Encode : SoundS Tryz.prog 99 (RoF S_action_Encode).sum := by
  refine ro_fn Tryz.func99 ok_action_Encode (env_cons (s := RoF S_action_Right) snd_action_Right (env_cons (s := RoF S_action_Size) snd_action_Size (env_cons (s := RwF S_buffer_New) snd_buffer_New (env_cons (s := RwF S_buffer_Buffer_Row) snd_buffer_Buffer_Row (env_cons (s := RoF S_oxm_Encode) snd_oxm_Encode (env_cons (s := RwF S_buffer_Buffer_Bytes) snd_buffer_Buffer_Bytes (env_cons (s := RwF S_buffer_Buffer_Even) snd_buffer_Buffer_Even (env_cons (s := RwF S_buffer_Buffer_Done) snd_buffer_Buffer_Done (env_cons (s := RoF S_action_rows) snd_action_rows (env_cons (s := RoF S_row_Count) snd_row_Count (env_nil _))))))))))) fun args objs p v e => ?_
  unfold S_action_Encode at e
  split at e
  · rename_i q a b c f h x v m d
    cases e
    refine ⟨rfl, fun hw ho hp => ?_⟩
    change List Int at v
    change List Int at m
    change List Int at d
    clear hw ho
    cases hr : rightA (rightO c f h x v m) q a b c f h x v m d with
    | false =>
      repeat' (intro t ht; first | (cases t <;> first | (cases ht; done) | ((try simp only [bn_s] at ht); (try simp only [nd_s] at ht); (try (exfalso; first | contradiction | omega)))) | (refine ht ?_ ?_ <;> clear ht) | (refine ht.1 ?_ ?_ <;> clear ht) | (refine ht ?_; clear ht))
      all_goals first
        | exact True.intro
        | exact hp
        | (exfalso; simp_all; done)
        | exact ⟨rfl, rfl⟩
        | trace_state
    | true =>
      obtain ⟨hS, hS1, hS2, hS3⟩ := sizeA_len hr
      obtain ⟨S, hSd⟩ : ∃ S, sizeA (rightO c f h x v m) (sizeO c f h x v m) q a b c f h x v m d = S := ⟨_, rfl⟩
      rw [hSd] at hS
      have hroom : roomF S = S := room_id (by omega) (by omega)
      have hfl : (encA q a b (encO c f h x v m) d).length = 4 + (bodyA q a b (encO c f h x v m) d).length := by
        unfold encA
        have g2 := bytesN_len (n := q) (w := 2) (by decide)
        have g3 := bytesN_len (n := (4 + (bodyA q a b (encO c f h x v m) d).length)) (w := 2) (by decide)
        simp only [List.length_append]; omega
      have hcn := cnt_le q
      by_cases h25 : q = 25
      · have ht := type_le (.inr h25)
        obtain ⟨r1, r2⟩ := row22 ht (show 0 ≤ S ∧ S ≤ 65535 by omega)
        have l2 := bytesN_len (n := q) (w := 2) (by decide)
        have l3 := bytesN_len (n := S) (w := 2) (by decide)
        obtain ⟨w1, w2⟩ := row_ok (l := []) (room := S) r2 (by rw [r1, List.length_append, List.length_nil]; omega)
        rw [List.nil_append, r1] at w1
        obtain ⟨_, _, _, _, _, _, hR⟩ := rightA_25 h25 hr
        obtain ⟨e1, e2⟩ := sizeO_right hR
        have hB : bodyA q a b (encO c f h x v m) d = encO c f h x v m ++ List.replicate ((8 - (4 + (encO c f h x v m).length) % 8) % 8) 0 := if_pos h25
        have hBl : (bodyA q a b (encO c f h x v m) d).length = (encO c f h x v m).length + (8 - (4 + (encO c f h x v m).length) % 8) % 8 := by rw [hB, List.length_append, List.length_replicate]
        obtain ⟨u1, u2⟩ := buf_ok (x := encO c f h x v m) (l := bytesN q 2 ++ bytesN S 2) (room := S) (by rw [List.length_append]; omega)
        have hlen : (bytesN q 2 ++ bytesN S 2 ++ encO c f h x v m).length = 4 + (encO c f h x v m).length := by simp only [List.length_append]; omega
        have hz := evZ_8 (4 + (encO c f h x v m).length)
        obtain ⟨y1, y2⟩ := buf_ok (x := List.replicate ((8 - (4 + (encO c f h x v m).length) % 8) % 8) (0 : Int)) (l := bytesN q 2 ++ bytesN S 2 ++ encO c f h x v m) (room := S) (by rw [hlen, List.length_replicate]; omega)
        have hfin : encA q a b (encO c f h x v m) d = bytesN q 2 ++ bytesN S 2 ++ encO c f h x v m ++ List.replicate ((8 - (4 + (encO c f h x v m).length) % 8) % 8) (0 : Int) := by
          unfold encA; rw [← hS, hB]; simp only [List.append_assoc]
        repeat' (intro t ht; first | (cases t <;> first | (cases ht; done) | ((try simp only [bn_s] at ht); (try simp only [nd_s] at ht); (try (exfalso; first | contradiction | omega)))) | (refine ht ?_ ?_ <;> clear ht) | (refine ht.1 ?_ ?_ <;> clear ht) | (refine ht ?_; clear ht))
        all_goals (try simp only [hSd] at *)
        all_goals (try simp only [hroom, w1, w2, hR, if_true, u1, u2, hlen, hz, y1, y2, ← hfin] at *)
        all_goals first
          | exact True.intro
          | exact hp
          | omega
          | ((try simp only [nd_s, bn_s, mm_s] at *); omega)
          | exact ⟨by omega, by omega, by simp only [List.length_nil]; omega⟩
          | exact ⟨by omega, by omega, by simp only [List.length_append]; omega, by omega⟩
          | exact ⟨by omega, by omega, by omega, by decide, by decide⟩
          | exact ⟨by omega, by decide⟩
          | (constructor <;> (simp only [List.length_append, List.length_replicate, List.length_nil]; omega))
          | (unfold doneL doneE doneB; exact ⟨rfl, by first | rfl | exact True.intro⟩)
          | (exfalso; simp_all; done)
          | trace_state
      · obtain ⟨k1, k2, k3, k4, k5, k6, k7⟩ := rightA_row h25 hr
        have ht := type_le (.inl k1)
        obtain ⟨r1, r2⟩ := row22 ht (show 0 ≤ S ∧ S ≤ 65535 by omega)
        have l2 := bytesN_len (n := q) (w := 2) (by decide)
        have l3 := bytesN_len (n := S) (w := 2) (by decide)
        obtain ⟨w1, w2⟩ := row_ok (l := []) (room := S) r2 (by rw [r1, List.length_append, List.length_nil]; omega)
        rw [List.nil_append, r1] at w1
        have hB : bodyA q a b (encO c f h x v m) d = putB (rowT q) (numsA q a b) ++ d := if_neg h25
        have hBl : (bodyA q a b (encO c f h x v m) d).length = (putB (rowT q) (numsA q a b)).length + d.length := by rw [hB, List.length_append]
        obtain ⟨u1, u2⟩ := row_ok (l := bytesN q 2 ++ bytesN S 2) (room := S) k4 (by rw [List.length_append]; omega)
        unfold numsA at u1 u2 k4 hB hBl
        obtain ⟨y1, y2⟩ := buf_ok (x := d) (l := bytesN q 2 ++ bytesN S 2 ++ putB (rowT q) ([a, b].take (countW (rowT q)).toNat)) (room := S) (by simp only [List.length_append]; omega)
        have hfin : encA q a b (encO c f h x v m) d = bytesN q 2 ++ bytesN S 2 ++ putB (rowT q) ([a, b].take (countW (rowT q)).toNat) ++ d := by
          unfold encA; rw [← hS, hB]; simp only [List.append_assoc]
        repeat' (intro t ht; first | (cases t <;> first | (cases ht; done) | ((try simp only [bn_s] at ht); (try simp only [nd_s] at ht); (try (exfalso; first | contradiction | omega)))) | (refine ht ?_ ?_ <;> clear ht) | (refine ht.1 ?_ ?_ <;> clear ht) | (refine ht ?_; clear ht))
        all_goals (try simp only [hSd] at *)
        all_goals (try simp only [hroom, w1, w2, u1, u2, y1, y2, ← hfin] at *)
        all_goals first
          | exact True.intro
          | exact hp
          | omega
          | ((try simp only [nd_s, bn_s, mm_s] at *); omega)
          | exact ⟨by omega, by omega, by simp only [List.length_nil]; omega⟩
          | exact ⟨by omega, by omega, by simp only [List.length_append]; omega⟩
          | exact ⟨by omega, by omega, by simp only [List.length_append]; omega, by omega⟩
          | exact ⟨by omega, by decide⟩
          | (constructor <;> (simp only [List.length_append, List.length_nil]; omega))
          | (unfold doneL doneE doneB; exact ⟨rfl, by first | rfl | exact True.intro⟩)
          | (exfalso; simp_all; done)
          | trace_state
  · cases e
end Go.Eng
