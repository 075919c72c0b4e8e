/- Parts of the proof: T1, C1, B1. No condition. -/
import Derived.Test.YtbenhegdnaoalaaGreatDoorProg
import Derived.Test.YtbenhegdnaoalaaGreatDoorWA10
import Derived.KernelRfl
import Derived.Test.YtbenhegdnaoalaaGreatDoorWA11
namespace Go.Eng
open Go.Proofs
set_option linter.unusedVariables false
set_option linter.unusedSimpArgs false
set_option maxRecDepth 100000
set_option maxHeartbeats 1000000
def trimRn (b : List Int) (c : Int) : Nat → Nat
  | 0 => 0
  | k + 1 => if b.getD k 0 = c then trimRn b c k else k + 1
def trimR (b : List Int) (c : Int) : List Int := b.take (trimRn b c b.length)
def trimL (b : List Int) (c : Int) : List Int := b.dropWhile fun x => decide (x = c)
theorem take_getD {b : List Int} {k j : Nat} (h : j < k) : (b.take k).getD j 0 = b.getD j 0 := by
  rw [List.getD_eq_getElem?_getD, List.getElem?_take, if_pos h, ← List.getD_eq_getElem?_getD]
def ir_bytes_trimRightByte : IR :=
(.seq
(.keep [0, 1]
(.reg (oD 4 (.mov (.c (.imm (.int .u8) []))) ::
[])))
(.seq
(.block 0
(.loop
(.seq
(.seq
(.keep [0, 1]
(.reg (oM 5 0 ::
oD 6 (.len (.t 5)) ::
oD 7 (.bin .gtr (.t 6) (cI 0)) ::
oM 8 7 ::
oT 8 9 (.mov (.t 0)) ::
oT 8 10 (.mov (.t 0)) ::
oT 8 11 (.len (.t 10)) ::
oT 8 12 (.bin .sub (.t 11) (cI 1)) ::
oT 8 13 (.indexSl 1 (.t 9) (.t 12)) ::
oT 8 14 (.load none (.t 13)) ::
oT 8 15 (.mov (.t 1)) ::
oT 8 16 (.bin .eql (.t 14) (.t 15)) ::
oD 17 (.pick (.t 8) (.t 16) cF) ::
[])))
(.cond (.t 17)
.skip
(.exit 0)))
(.block 1
(.keep [0, 1]
(.reg (oM 18 0 ::
oM 19 0 ::
oD 20 (.len (.t 19)) ::
oD 21 (.bin .sub (.t 20) (cI 1)) ::
oD 22 (.slice 1 (.t 18) none (some (.t 21)) none) ::
oM 0 22 ::
[])))))))
(.seq
(.keep [0]
(.reg (oM 23 0 ::
oM 4 23 ::
[])))
.ret)))
def rd_bytes_trimRightByte : List RD := [.tmp 4 true (some (.int .u8))]
theorem ok_bytes_trimRightByte : fnOk Tryz.prog Tryz.f190 ir_bytes_trimRightByte rd_bytes_trimRightByte = true := by kernel_rfl
def S_bytes_trimRightByte : List AV → List Obj → Option (Prop × AV)
  | [.imm (.int .u8) b, .int .u8 c], [] => some ((b.length ≤ 140737488355328, .imm (.int .u8) (trimR b c)))
  | _, _ => none
theorem snd_bytes_trimRightByte : SoundS Tryz.prog 190 (RoF S_bytes_trimRightByte).sum := by
  refine ro_fn Tryz.func190 ok_bytes_trimRightByte (env_nil _) fun args objs p v e => ?_
  unfold S_bytes_trimRightByte at e
  split at e
  · rename_i b c
    cases e
    refine ⟨rfl, fun hw ho hp => ?_⟩
    change List Int at b
    repeat' (intro t ht; first | (cases t <;> first | (cases ht; done) | ((try simp only [bn_s] at ht); (try simp only [nd_s] at ht))) | (refine ht ?_ ?_ <;> clear ht) | (refine ht.1 ?_ ?_ <;> clear ht) | (refine ht ?_; clear ht))
    all_goals first
      | (intro r h1 h2; clear h1; refine h2 ⟨[0, 1], Nat, (fun k => k ≤ b.length ∧ trimRn b c b.length = trimRn b c k), fun k => [.imm (.int .u8) (b.take k), .int .u8 c], fun _ => [], fun k => k, ⟨b.length, ⟨Nat.le_refl _, rfl⟩, by simp only [List.take_length], rfl⟩, ?_⟩; clear h2)
    rintro k ⟨hk, he⟩
    have hl : (b.take k).length = k := by rw [List.length_take]; omega
    repeat' (intro t ht; first | (cases t <;> first | (cases ht; done) | ((try simp only [bn_s] at ht); (try simp only [nd_s] at ht))) | (refine ht ?_ ?_ <;> clear ht) | (refine ht.1 ?_ ?_ <;> clear ht) | (refine ht ?_; clear ht))
    all_goals first
      | ((try simp only [nd_s, bn_s, mm_s] at *); omega)
      | (have h0 : k = 0 := by omega
         refine ⟨?_, rfl⟩; unfold trimR; rw [he, h0]; rfl)
      | (obtain ⟨j, rfl⟩ : ∃ j, k = j + 1 := ⟨k - 1, by omega⟩
         have e : (((b.take (j + 1)).length : Int) - 1).toNat = j := by omega
         first
           | (have hx : ¬ (b.take (j + 1)).getD (((b.take (j + 1)).length : Int) - 1).toNat 0 = c := by assumption
              rw [e, take_getD (Nat.lt_succ_self j)] at hx
              have h1 : trimRn b c (j + 1) = j + 1 := if_neg hx
              refine ⟨?_, rfl⟩; unfold trimR; rw [he, h1])
           | (have hx : (b.take (j + 1)).getD (((b.take (j + 1)).length : Int) - 1).toNat 0 = c := by assumption
              rw [e, take_getD (Nat.lt_succ_self j)] at hx
              have h1 : trimRn b c (j + 1) = trimRn b c j := if_pos hx
              refine ⟨j, ⟨by omega, by rw [he, h1]⟩, Nat.lt_succ_self j, ?_, rfl⟩
              dsimp only; rw [e, List.take_take, Nat.min_eq_left (Nat.le_succ j)]))
      | trace_state
  · cases e
def ir_bytes_trimLeftByte : IR :=
(.seq
(.keep [0, 1]
(.reg (oD 4 (.mov (.c (.imm (.int .u8) []))) ::
[])))
(.seq
(.block 0
(.loop
(.seq
(.seq
(.keep [0, 1]
(.reg (oM 5 0 ::
oD 6 (.len (.t 5)) ::
oD 7 (.bin .gtr (.t 6) (cI 0)) ::
oM 8 7 ::
oT 8 9 (.mov (.t 0)) ::
oT 8 10 (.indexSl 1 (.t 9) (cI 0)) ::
oT 8 11 (.load none (.t 10)) ::
oT 8 12 (.mov (.t 1)) ::
oT 8 13 (.bin .eql (.t 11) (.t 12)) ::
oD 14 (.pick (.t 8) (.t 13) cF) ::
[])))
(.cond (.t 14)
.skip
(.exit 0)))
(.block 1
(.keep [0, 1]
(.reg (oM 15 0 ::
oD 16 (.slice 1 (.t 15) (some (cI 1)) none none) ::
oM 0 16 ::
[])))))))
(.seq
(.seq
(.keep [0]
(.reg (oM 17 0 ::
oD 18 (.len (.t 17)) ::
oD 19 (.bin .eql (.t 18) (cI 0)) ::
[])))
(.cond (.t 19)
(.seq
(.reg (oD 4 (.mov (.c (.imm (.int .u8) []))) ::
[]))
.ret)
.skip))
(.seq
(.reg (oM 20 0 ::
oM 4 20 ::
[]))
.ret))))
def rd_bytes_trimLeftByte : List RD := [.tmp 4 true (some (.int .u8))]
theorem ok_bytes_trimLeftByte : fnOk Tryz.prog Tryz.f189 ir_bytes_trimLeftByte rd_bytes_trimLeftByte = true := by kernel_rfl
def S_bytes_trimLeftByte : List AV → List Obj → Option (Prop × AV)
  | [.imm (.int .u8) b, .int .u8 c], [] => some ((b.length ≤ 140737488355328, .imm (.int .u8) (trimL b c)))
  | _, _ => none
theorem snd_bytes_trimLeftByte : SoundS Tryz.prog 189 (RoF S_bytes_trimLeftByte).sum := by
  refine ro_fn Tryz.func189 ok_bytes_trimLeftByte (env_nil _) fun args objs p v e => ?_
  unfold S_bytes_trimLeftByte at e
  split at e
  · rename_i b c
    cases e
    refine ⟨rfl, fun hw ho hp => ?_⟩
    change List Int at b
    repeat' (intro t ht; first | (cases t <;> first | (cases ht; done) | ((try simp only [bn_s] at ht); (try simp only [nd_s] at ht))) | (refine ht ?_ ?_ <;> clear ht) | (refine ht.1 ?_ ?_ <;> clear ht) | (refine ht ?_; clear ht))
    all_goals first
      | (intro r h1 h2; clear h1; refine h2 ⟨[0, 1], Nat, (fun k => k ≤ b.length ∧ trimL b c = trimL (b.drop k) c), fun k => [.imm (.int .u8) (b.drop k), .int .u8 c], fun _ => [], fun k => b.length - k, ⟨0, ⟨Nat.zero_le _, rfl⟩, rfl, rfl⟩, ?_⟩; clear h2)
    rintro k ⟨hk, he⟩
    have hl : (b.drop k).length = b.length - k := List.length_drop
    repeat' (intro t ht; first | (cases t <;> first | (cases ht; done) | ((try simp only [bn_s] at ht); (try simp only [nd_s] at ht))) | (refine ht ?_ ?_ <;> clear ht) | (refine ht.1 ?_ ?_ <;> clear ht) | (refine ht ?_; clear ht))
    all_goals first
      | ((try simp only [nd_s, bn_s, mm_s] at *); omega)
      | (exfalso; omega)
      | (have h0 : b.drop k = [] := List.eq_nil_of_length_eq_zero (by omega)
         refine ⟨?_, rfl⟩; rw [he, h0]; rfl)
      | (have hlt : k < b.length := by omega
         first
           | (have hx : ¬ (b.drop k).getD 0 0 = c := by assumption
              rw [getD_drop0] at hx
              have h1 : trimL (b.drop k) c = b.drop k := by
                unfold trimL; rw [drop_step hlt 0, List.dropWhile_cons_of_neg (by simpa using hx)]
              refine ⟨?_, rfl⟩; rw [he, h1])
           | (have hx : (b.drop k).getD 0 0 = c := by assumption
              rw [getD_drop0] at hx
              have h1 : trimL (b.drop k) c = trimL (b.drop (k + 1)) c := by
                unfold trimL; rw [drop_step hlt 0, List.dropWhile_cons_of_pos (by simpa using hx)]
              refine ⟨k + 1, ⟨hlt, by rw [he, h1]⟩, by dsimp only; omega, ?_, rfl⟩
              dsimp only; rw [← List.drop_drop]; rfl))
      | trace_state
  · cases e
theorem trim_zero : ∀ (b : List Int), decide ((trimL (trimR b 0) 0).length = 0) = zeroL b := by
  intro b
  have hR : ∀ k ≤ b.length, (b.take (trimRn b 0 k)).all (fun c => decide (c = 0)) = (b.take k).all fun c => decide (c = 0) := by
    intro k
    induction k with
    | zero => intro _; rfl
    | succ k ih =>
      intro hk
      unfold trimRn
      split
      · rename_i h
        rw [ih (by omega), List.take_succ_eq_append_getElem (by omega), List.all_append]
        have : b[k] = 0 := by rw [List.getD_eq_getElem?_getD, List.getElem?_eq_getElem (by omega)] at h; exact h
        simp [this]
      · rfl
  have hL : ∀ l : List Int, decide ((l.dropWhile fun x => decide (x = 0)).length = 0) = l.all fun c => decide (c = 0) := by
    intro l
    induction l with
    | nil => rfl
    | cons a l ih =>
      by_cases h : a = 0
      · rw [List.dropWhile_cons_of_pos (by simpa using h), ih]; simp [h]
      · rw [List.dropWhile_cons_of_neg (by simpa using h)]; simp [h]
  unfold trimL trimR zeroL
  rw [hL, hR _ (Nat.le_refl _), List.take_length]
def ir_bytes_Trim : IR :=
(.seq
(.keep [0, 1]
(.reg (oD 4 (.mov (.c (.imm (.int .u8) []))) ::
[])))
(.seq
(.seq
(.reg (oM 7 0 ::
oD 8 (.len (.t 7)) ::
oD 9 (.bin .eql (.t 8) (cI 0)) ::
[]))
(.cond (.t 9)
(.seq
(.reg (oD 4 (.mov (.c (.imm (.int .u8) []))) ::
[]))
.ret)
.skip))
(.seq
(.seq
(.reg (oM 10 1 ::
oD 11 (.bin .eql (.t 10) (.c (.str []))) ::
[]))
(.cond (.t 11)
(.seq
(.keep [0]
(.reg (oM 12 0 ::
oM 4 12 ::
[])))
.ret)
.skip))
(.seq
(.seq
(.keep [0, 1]
(.reg (oM 13 1 ::
oD 14 (.slen (.t 13)) ::
oD 15 (.bin .eql (.t 14) (cI 1)) ::
oM 16 15 ::
oT 16 17 (.mov (.t 1)) ::
oT 16 18 (.sindex (.t 17) (cI 0)) ::
oT 16 19 (.bin .lss (.t 18) (.c (.int .u8 128))) ::
oD 20 (.pick (.t 16) (.t 19) cF) ::
[])))
(.cond (.t 20)
(.seq
(.keep [0, 1]
(.regD ((oM 21 0, []) ::
(oM 22 1, [0]) ::
(oD 23 (.sindex (.t 22) (cI 0)), [1]) ::
(oD 24 (.call false (.f 190) [(.t 21), (.t 23)]), []) ::
(oM 25 1, [0, 0, 0, 0]) ::
(oD 26 (.sindex (.t 25) (cI 0)), [1, 0, 0, 0]) ::
(oD 27 (.call false (.f 189) [(.t 24), (.t 26)]), []) ::
(oM 4 27, []) ::
[])))
.ret)
.skip))
(.seq
(.seq
(.keep [0, 1]
(.reg (oM 29 1 ::
oD 30 (.call false (.f 191) [(.t 29)]) ::
oM 28 30 ::
oD 31 (.extract (.t 28) 0) ::
oD 32 (.extract (.t 28) 1) ::
oD 5 (.box [.kb false, .kb false, .kb false, .kb false, .kb false, .kb false, .kb false, .kb false, .kb false, .kb false, .kb false, .kb false, .kb false, .kb false, .kb false, .kb false, .kb false, .kb false, .kb false, .kb false, .kb false, .kb false, .kb false, .kb false, .kb false, .kb false, .kb false, .kb false, .kb false, .kb false, .kb false, .kb false, .kb false, .kb false, .kb false, .kb false, .kb false, .kb false, .kb false, .kb false, .kb false, .kb false, .kb false, .kb false, .kb false, .kb false, .kb false, .kb false, .kb false, .kb false, .kb false, .kb false, .kb false, .kb false, .kb false, .kb false, .kb false, .kb false, .kb false, .kb false, .kb false, .kb false, .kb false, .kb false, .kb false, .kb false, .kb false, .kb false, .kb false, .kb false, .kb false, .kb false, .kb false, .kb false, .kb false, .kb false, .kb false, .kb false, .kb false, .kb false, .kb false, .kb false, .kb false, .kb false, .kb false, .kb false, .kb false, .kb false, .kb false, .kb false, .kb false, .kb false, .kb false, .kb false, .kb false, .kb false, .kb false, .kb false, .kb false, .kb false, .kb false, .kb false, .kb false, .kb false, .kb false, .kb false, .kb false, .kb false, .kb false, .kb false, .kb false, .kb false, .kb false, .kb false, .kb false, .kb false, .kb false, .kb false, .kb false, .kb false, .kb false, .kb false, .kb false, .kb false, .kb false, .kb false, .kb false, .kb false, .kb false, .kb false, .kb false, .kb false, .kb false, .kb false, .kb false, .kb false, .kb false, .kb false, .kb false, .kb false, .kb false, .kb false, .kb false, .kb false, .kb false, .kb false, .kb false, .kb false, .kb false, .kb false, .kb false, .kb false, .kb false, .kb false, .kb false, .kb false, .kb false, .kb false, .kb false, .kb false, .kb false, .kb false, .kb false, .kb false, .kb false, .kb false, .kb false, .kb false, .kb false, .kb false, .kb false, .kb false, .kb false, .kb false, .kb false, .kb false, .kb false, .kb false, .kb false, .kb false, .kb false, .kb false, .kb false, .kb false, .kb false, .kb false, .kb false, .kb false, .kb false, .kb false, .kb false, .kb false, .kb false, .kb false, .kb false, .kb false, .kb false, .kb false, .kb false, .kb false, .kb false, .kb false, .kb false, .kb false, .kb false, .kb false, .kb false, .kb false, .kb false, .kb false, .kb false, .kb false, .kb false, .kb false, .kb false, .kb false, .kb false, .kb false, .kb false, .kb false, .kb false, .kb false, .kb false, .kb false, .kb false, .kb false, .kb false, .kb false, .kb false, .kb false, .kb false, .kb false, .kb false, .kb false, .kb false, .kb false, .kb false, .kb false, .kb false, .kb false, .kb false, .kb false, .kb false, .kb false, .kb false, .kb false, .kb false, .kb false, .kb false, .kb false, .kb false, .kb false, .kb false, .kb false, .kb false, .kb false]) ::
oN (.store 256 (.t 5) (.t 31)) ::
oM 6 32 ::
[])))
(.seq
(.keep [0, 1, 5, 6]
(.reg (oM 33 6 ::
[])))
(.cond (.t 33)
(.seq
(.reg (oM 34 0 ::
oD 35 (.call false (.f 193) [(.t 34), (.t 5)]) ::
oD 36 (.call false (.f 192) [(.t 35), (.t 5)]) ::
oM 4 36 ::
[]))
.ret)
.skip)))
(.seq
(.keep [0, 1]
(.reg (oM 37 0 ::
oM 38 1 ::
oD 39 (.call false (.f 195) [(.t 37), (.t 38)]) ::
oM 40 1 ::
oD 41 (.call false (.f 194) [(.t 39), (.t 40)]) ::
oM 4 41 ::
[])))
.ret))))))
def rd_bytes_Trim : List RD := [.tmp 4 true (some (.int .u8))]
theorem ok_bytes_Trim : fnOk Tryz.prog Tryz.f133 ir_bytes_Trim rd_bytes_Trim = true := by kernel_rfl
def S_bytes_Trim : List AV → List Obj → Option (Prop × AV)
  | [.imm (.int .u8) b, .str [0]], [] => some ((b.length ≤ 140737488355328, .imm (.int .u8) (trimL (trimR b 0) 0)))
  | _, _ => none
theorem snd_bytes_Trim : SoundS Tryz.prog 133 (RoF S_bytes_Trim).sum := by
  refine ro_fn Tryz.func133 ok_bytes_Trim (env_cons (s := RoF S_bytes_trimRightByte) snd_bytes_trimRightByte (env_cons (s := RoF S_bytes_trimLeftByte) snd_bytes_trimLeftByte (env_nil _))) fun args objs p v e => ?_
  unfold S_bytes_Trim at e
  split at e
  · rename_i b
    cases e
    refine ⟨rfl, fun hw ho hp => ?_⟩
    change List Int at b
    have hl : (trimR b 0).length ≤ b.length := by unfold trimR; rw [List.length_take]; omega
    repeat' (intro t ht; first | (cases t <;> first | (cases ht; done) | ((try simp only [bn_s] at ht); (try simp only [nd_s] at ht))) | (refine ht ?_ ?_ <;> clear ht) | (refine ht.1 ?_ ?_ <;> clear ht) | (refine ht ?_; clear ht))
    all_goals first
      | exact hp
      | exact ⟨by decide, by decide⟩
      | exact Nat.le_trans hl hp
      | exact ⟨rfl, rfl⟩
      | (have hb : b = [] := List.eq_nil_of_length_eq_zero (by omega)
         refine ⟨?_, rfl⟩; rw [hb]; rfl)
      | trace_state
  · cases e
end Go.Eng
namespace Go.Eng
open Go.Proofs
set_option linter.unusedVariables false
set_option linter.unusedSimpArgs false
set_option maxRecDepth 100000
set_option maxHeartbeats 1000000
def ir_bytes_Clone : IR :=
(.seq
(.keep [0]
(.reg (oD 2 (.mov (.c (.imm (.int .u8) []))) ::
[])))
(.seq
(.seq
(.reg (oM 3 0 ::
oD 4 (.isnil false (.t 3)) ::
[]))
(.cond (.t 4)
(.seq
(.reg (oD 2 (.mov (.c (.imm (.int .u8) []))) ::
[]))
.ret)
.skip))
(.seq
(.reg (oD 5 (.slice0 (.int .u8)) ::
oM 6 0 ::
oD 7 (.append (.int .u8) 1 (.t 5) (.t 6)) ::
oM 2 7 ::
[]))
.ret)))
def rd_bytes_Clone : List RD := [.tmp 2 true (some (.int .u8))]
theorem ok_bytes_Clone : fnOk Tryz.prog Tryz.f71 ir_bytes_Clone rd_bytes_Clone = true := by kernel_rfl
def S_bytes_Clone : List AV → List Obj → Option (Prop × AV)
  | [.imm (.int .u8) b], [] => some ((b.length ≤ 140737488355328, .imm (.int .u8) b))
  | _, _ => none
theorem snd_bytes_Clone : SoundS Tryz.prog 71 (RoF S_bytes_Clone).sum := by
  refine ro_fn Tryz.func71 ok_bytes_Clone (env_nil _) fun args objs p v e => ?_
  unfold S_bytes_Clone at e
  split at e
  · rename_i b
    cases e
    refine ⟨rfl, fun hw ho hp => ?_⟩
    change List Int at b
    repeat' (intro t ht; first | (cases t <;> first | (cases ht; done) | ((try simp only [bn_s] at ht); (try simp only [nd_s] at ht))) | (refine ht ?_ ?_ <;> clear ht) | (refine ht.1 ?_ ?_ <;> clear ht) | (refine ht ?_; clear ht))
    all_goals first
      | (simp only [cast_rfl, List.length_nil, Nat.zero_add, Nat.mul_one]; omega)
      | exact ⟨rfl, rfl⟩
      | (have e : b = [] := by simp_all
         refine ⟨?_, rfl⟩; rw [e])
      | trace_state
  · cases e
def ir_cursor_Cursor_none : IR :=
(.seq
(.keep [0]
(.reg (oD 2 (.mov cF) ::
[])))
(.seq
(.keep [0]
(.reg (oM 3 0 ::
oD 4 (.eqp false (.t 3) (.c (.nilp))) ::
oM 5 4 ::
oF 5 6 (.mov (.t 0)) ::
oF 5 7 (.nilck (.t 6)) ::
oF 5 8 (.fieldAddr 5 (.t 7)) ::
oF 5 9 (.load none (.t 8)) ::
oF 5 10 (.un .not (.t 9)) ::
oD 11 (.pick (.t 5) cT (.t 10)) ::
oM 2 11 ::
[])))
.ret))
def rd_cursor_Cursor_none : List RD := [.tmp 2 true none]
theorem ok_cursor_Cursor_none : fnOk Tryz.prog Tryz.f75 ir_cursor_Cursor_none rd_cursor_Cursor_none = true := by kernel_rfl
def S_cursor_Cursor_none : List AV → List Obj → Option (Prop × AV)
  | [.ptr 0 0], [.box [.imm (.int .u8) b, .int .i64 p, .int .i64 sh, .int .i64 od, .int .i64 e, .bool true]] => some ((True, .bool false))
  | _, _ => none
theorem snd_cursor_Cursor_none : SoundS Tryz.prog 75 (RoF S_cursor_Cursor_none).sum := by
  refine ro_fn Tryz.func75 ok_cursor_Cursor_none (env_nil _) fun args objs p v e => ?_
  unfold S_cursor_Cursor_none at e
  split at e
  · rename_i b p sh od e
    cases e
    refine ⟨rfl, fun hw ho hp => ?_⟩
    change List Int at b
    repeat' (intro t ht; first | (cases t <;> first | (cases ht; done) | ((try simp only [bn_s] at ht); (try simp only [nd_s] at ht))) | (refine ht ?_ ?_ <;> clear ht) | (refine ht.1 ?_ ?_ <;> clear ht) | (refine ht ?_; clear ht))
    all_goals exact ⟨rfl, rfl⟩
  · cases e
def ir_cursor_New : IR :=
(.seq
(.keep [0, 1, 2]
(.reg (oD 6 (.mov (.c (.nilp))) ::
[])))
(.seq
(.keep [0, 1, 2]
(.reg (oM 7 0 ::
oD 8 (.call false (.f 71) [(.t 7)]) ::
oM 9 1 ::
oM 10 2 ::
oD 11 (.build [.imm (.int .u8) [], .int .i64 0, .int .i64 0, .int .i64 0, .int .i64 0, .kb false] [(0, 1, (.t 8)), (2, 1, (.t 9)), (3, 1, (.t 10)), (5, 1, cT)]) ::
oD 12 (.boxv (.t 11)) ::
oM 6 12 ::
[])))
.ret))
def rd_cursor_New : List RD := [.tmp 6 true none]
theorem ok_cursor_New : fnOk Tryz.prog Tryz.f28 ir_cursor_New rd_cursor_New = true := by kernel_rfl
def S_cursor_New : List AV → List Obj → Option (Prop × AV × List Obj)
  | [.imm (.int .u8) b, .int .i64 sh, .int .i64 od], [] => some ((b.length ≤ 140737488355328, .ptr 0 0, [.box [.imm (.int .u8) b, .int .i64 0, .int .i64 sh, .int .i64 od, .int .i64 0, .bool true]]))
  | _, _ => none
theorem snd_cursor_New : SoundS Tryz.prog 28 (RwF S_cursor_New).sum := by
  refine rw_fn Tryz.func28 ok_cursor_New (env_cons (s := RoF S_bytes_Clone) snd_bytes_Clone (env_nil _)) fun args objs p v o e => ?_
  unfold S_cursor_New at e
  split at e
  · rename_i b sh od
    cases e
    refine ⟨rfl, fun hw ho hp => ?_⟩
    change List Int at b
    repeat' (intro t ht; first | (cases t <;> first | (cases ht; done) | ((try simp only [bn_s] at ht); (try simp only [nd_s] at ht))) | (refine ht ?_ ?_ <;> clear ht) | (refine ht.1 ?_ ?_ <;> clear ht) | (refine ht ?_; clear ht))
    all_goals first
      | exact hp
      | exact ⟨rfl, rfl⟩
      | trace_state
  · cases e
def failE (e x : Int) : Int := if e = 0 then x else e
def ir_cursor_Cursor_Fail : IR :=
(.seq
(.keep [0, 1]
(.reg (oM 4 0 ::
oD 5 (.call false (.f 75) [(.t 4)]) ::
oD 6 (.un .not (.t 5)) ::
oM 7 6 ::
oT 7 8 (.mov (.t 0)) ::
oT 7 9 (.nilck (.t 8)) ::
oT 7 10 (.fieldAddr 4 (.t 9)) ::
oT 7 11 (.load none (.t 10)) ::
oT 7 12 (.bin .eql (.t 11) (cI 0)) ::
oD 13 (.pick (.t 7) (.t 12) cF) ::
[])))
(.cond (.t 13)
(.keep [0, 1]
(.reg (oM 14 0 ::
oM 15 1 ::
oD 16 (.nilck (.t 14)) ::
oD 17 (.fieldAddr 4 (.t 16)) ::
oN (.store 1 (.t 17) (.t 15)) ::
[])))
.skip))
def rd_cursor_Cursor_Fail : List RD := []
theorem ok_cursor_Cursor_Fail : fnOk Tryz.prog Tryz.f74 ir_cursor_Cursor_Fail rd_cursor_Cursor_Fail = true := by kernel_rfl
def S_cursor_Cursor_Fail : List AV → List Obj → Option (Prop × AV × List Obj)
  | [.ptr 0 0, .int .i64 x], [.box [.imm (.int .u8) b, .int .i64 p, .int .i64 sh, .int .i64 od, .int .i64 e, .bool true]] => some ((True, .tup [], [.box [.imm (.int .u8) b, .int .i64 p, .int .i64 sh, .int .i64 od, .int .i64 (failE e x), .bool true]]))
  | _, _ => none
theorem snd_cursor_Cursor_Fail : SoundS Tryz.prog 74 (RwF S_cursor_Cursor_Fail).sum := by
  refine rw_fn Tryz.func74 ok_cursor_Cursor_Fail (env_cons (s := RoF S_cursor_Cursor_none) snd_cursor_Cursor_none (env_nil _)) fun args objs p v o e => ?_
  unfold S_cursor_Cursor_Fail at e
  split at e
  · rename_i x b p sh od e
    cases e
    refine ⟨rfl, fun hw ho hp => ?_⟩
    change List Int at b
    repeat' (intro t ht; first | (cases t <;> first | (cases ht; done) | ((try simp only [bn_s] at ht); (try simp only [nd_s] at ht))) | (refine ht ?_ ?_ <;> clear ht) | (refine ht.1 ?_ ?_ <;> clear ht) | (refine ht ?_; clear ht))
    all_goals first
      | exact True.intro
      | (unfold failE; simp_all; done)
      | trace_state
  · cases e
def ir_cursor_Cursor_Err : IR :=
(.seq
(.keep [0]
(.reg (oD 2 (.mov (cI 0)) ::
[])))
(.seq
(.seq
(.reg (oM 3 0 ::
oD 4 (.call false (.f 75) [(.t 3)]) ::
[]))
(.cond (.t 4)
(.seq
(.reg (oD 2 (.mov (cI 10001)) ::
[]))
.ret)
.skip))
(.seq
(.keep [0]
(.reg (oM 5 0 ::
oD 6 (.nilck (.t 5)) ::
oD 7 (.fieldAddr 4 (.t 6)) ::
oL 8 7 ::
oM 2 8 ::
[])))
.ret)))
def rd_cursor_Cursor_Err : List RD := [.tmp 2 true none]
theorem ok_cursor_Cursor_Err : fnOk Tryz.prog Tryz.f31 ir_cursor_Cursor_Err rd_cursor_Cursor_Err = true := by kernel_rfl
def S_cursor_Cursor_Err : List AV → List Obj → Option (Prop × AV)
  | [.ptr 0 0], [.box [.imm (.int .u8) b, .int .i64 p, .int .i64 sh, .int .i64 od, .int .i64 e, .bool true]] => some ((True, .int .i64 e))
  | _, _ => none
theorem snd_cursor_Cursor_Err : SoundS Tryz.prog 31 (RoF S_cursor_Cursor_Err).sum := by
  refine ro_fn Tryz.func31 ok_cursor_Cursor_Err (env_cons (s := RoF S_cursor_Cursor_none) snd_cursor_Cursor_none (env_nil _)) fun args objs p v e => ?_
  unfold S_cursor_Cursor_Err at e
  split at e
  · rename_i b p sh od e
    cases e
    refine ⟨rfl, fun hw ho hp => ?_⟩
    change List Int at b
    repeat' (intro t ht; first | (cases t <;> first | (cases ht; done) | ((try simp only [bn_s] at ht); (try simp only [nd_s] at ht))) | (refine ht ?_ ?_ <;> clear ht) | (refine ht.1 ?_ ?_ <;> clear ht) | (refine ht ?_; clear ht))
    all_goals first
      | exact True.intro
      | exact ⟨rfl, rfl⟩
      | trace_state
  · cases e
def ir_cursor_Cursor_Left : IR :=
(.seq
(.keep [0]
(.reg (oD 2 (.mov (cI 0)) ::
[])))
(.seq
(.seq
(.reg (oM 3 0 ::
oD 4 (.call false (.f 75) [(.t 3)]) ::
[]))
(.cond (.t 4)
(.seq
(.reg (oD 2 (.mov (cI 0)) ::
[]))
.ret)
.skip))
(.seq
(.keep [0]
(.regD ((oM 5 0, []) ::
(oD 6 (.nilck (.t 5)), []) ::
(oD 7 (.fieldAddr 0 (.t 6)), []) ::
(oL 8 7, []) ::
(oD 9 (.len (.t 8)), []) ::
(oM 10 0, [0, 0, 0, 0, 0]) ::
(oD 11 (.nilck (.t 10)), [1, 0, 0, 0, 0]) ::
(oD 12 (.fieldAddr 1 (.t 11)), [2, 0, 0, 0, 0]) ::
(oL 13 12, [3, 0, 0, 0, 0]) ::
(oD 14 (.bin .sub (.t 9) (.t 13)), []) ::
(oM 2 14, []) ::
[])))
.ret)))
def rd_cursor_Cursor_Left : List RD := [.tmp 2 true none]
theorem ok_cursor_Cursor_Left : fnOk Tryz.prog Tryz.f32 ir_cursor_Cursor_Left rd_cursor_Cursor_Left = true := by kernel_rfl
def S_cursor_Cursor_Left : List AV → List Obj → Option (Prop × AV)
  | [.ptr 0 0], [.box [.imm (.int .u8) b, .int .i64 p, .int .i64 sh, .int .i64 od, .int .i64 e, .bool true]] => some ((0 ≤ p ∧ p ≤ b.length, .int .i64 (b.length - p)))
  | _, _ => none
theorem snd_cursor_Cursor_Left : SoundS Tryz.prog 32 (RoF S_cursor_Cursor_Left).sum := by
  refine ro_fn Tryz.func32 ok_cursor_Cursor_Left (env_cons (s := RoF S_cursor_Cursor_none) snd_cursor_Cursor_none (env_nil _)) fun args objs p v e => ?_
  unfold S_cursor_Cursor_Left at e
  split at e
  · rename_i b p sh od e
    cases e
    refine ⟨rfl, fun hw ho hp => ?_⟩
    change List Int at b
    have hb : b.length ≤ maxLen := (ho _ (List.mem_cons_self ..) (.imm (.int .u8) b) (by simp)).2
    unfold maxLen at hb
    repeat' (intro t ht; first | (cases t <;> first | (cases ht; done) | ((try simp only [bn_s] at ht); (try simp only [nd_s] at ht))) | (refine ht ?_ ?_ <;> clear ht) | (refine ht.1 ?_ ?_ <;> clear ht) | (refine ht ?_; clear ht))
    all_goals first
      | exact True.intro
      | ((try simp only [nd_s, bn_s, mm_s] at *); omega)
      | exact ⟨rfl, rfl⟩
      | trace_state
  · cases e
def ir_cursor_Cursor_At : IR :=
(.seq
(.keep [0]
(.reg (oD 2 (.mov (cI 0)) ::
[])))
(.seq
(.seq
(.reg (oM 3 0 ::
oD 4 (.call false (.f 75) [(.t 3)]) ::
[]))
(.cond (.t 4)
(.seq
(.reg (oD 2 (.mov (cI 0)) ::
[]))
.ret)
.skip))
(.seq
(.keep [0]
(.reg (oM 5 0 ::
oD 6 (.nilck (.t 5)) ::
oD 7 (.fieldAddr 1 (.t 6)) ::
oL 8 7 ::
oM 2 8 ::
[])))
.ret)))
def rd_cursor_Cursor_At : List RD := [.tmp 2 true none]
theorem ok_cursor_Cursor_At : fnOk Tryz.prog Tryz.f255 ir_cursor_Cursor_At rd_cursor_Cursor_At = true := by kernel_rfl
def S_cursor_Cursor_At : List AV → List Obj → Option (Prop × AV)
  | [.ptr 0 0], [.box [.imm (.int .u8) b, .int .i64 p, .int .i64 sh, .int .i64 od, .int .i64 e, .bool true]] => some ((True, .int .i64 p))
  | _, _ => none
theorem snd_cursor_Cursor_At : SoundS Tryz.prog 255 (RoF S_cursor_Cursor_At).sum := by
  refine ro_fn Tryz.func255 ok_cursor_Cursor_At (env_cons (s := RoF S_cursor_Cursor_none) snd_cursor_Cursor_none (env_nil _)) fun args objs p v e => ?_
  unfold S_cursor_Cursor_At at e
  split at e
  · rename_i b p sh od e
    cases e
    refine ⟨rfl, fun hw ho hp => ?_⟩
    change List Int at b
    repeat' (intro t ht; first | (cases t <;> first | (cases ht; done) | ((try simp only [bn_s] at ht); (try simp only [nd_s] at ht))) | (refine ht ?_ ?_ <;> clear ht) | (refine ht.1 ?_ ?_ <;> clear ht) | (refine ht ?_; clear ht))
    all_goals first
      | exact True.intro
      | exact ⟨rfl, rfl⟩
      | trace_state
  · cases e
def curL (w b : List Int) (p e : Int) : List Int := if e = 0 then getL w (b.drop p.toNat) else []
def curP (w b : List Int) (p e : Int) : Int := if e = 0 then (if getK w (b.drop p.toNat) = 1 then p else if getK w (b.drop p.toNat) = 2 then p else p + sizeW w) else p
def curE (w b : List Int) (p sh od e : Int) : Int := if e = 0 then (if getK w (b.drop p.toNat) = 1 then sh else if getK w (b.drop p.toNat) = 2 then od else 0) else e
def ir_cursor_Cursor_Row : IR :=
(.seq
(.keep [0, 1]
(.reg (oD 4 (.mov (.c (.imm (.int .u64) []))) ::
[])))
(.seq
(.seq
(.reg (oM 7 0 ::
oD 8 (.call false (.f 31) [(.t 7)]) ::
oD 9 (.bin .neq (.t 8) (cI 0)) ::
[]))
(.cond (.t 9)
(.seq
(.reg (oD 4 (.mov (.c (.imm (.int .u64) []))) ::
[]))
.ret)
.skip))
(.seq
(.keep [0, 1]
(.regD ((oM 11 1, []) ::
(oM 12 0, [0]) ::
(oD 13 (.nilck (.t 12)), [1]) ::
(oD 14 (.fieldAddr 0 (.t 13)), [2]) ::
(oL 15 14, [3]) ::
(oM 16 0, [0, 0, 0, 0, 0]) ::
(oD 17 (.nilck (.t 16)), [1, 0, 0, 0, 0]) ::
(oD 18 (.fieldAddr 1 (.t 17)), [2, 0, 0, 0, 0]) ::
(oL 19 18, [3, 0, 0, 0, 0]) ::
(oD 20 (.slice 1 (.t 15) (some (.t 19)) none none), [8]) ::
(oD 21 (.call false (.f 187) [(.t 11), (.t 20)]), []) ::
(oM 10 21, []) ::
(oD 22 (.extract (.t 10) 0), []) ::
(oD 23 (.extract (.t 10) 1), [0]) ::
(oM 5 22, [0]) ::
(oM 6 23, []) ::
[])))
(.seq
(.seq
(.keep [0, 1, 5, 6]
(.reg (oM 24 6 ::
[])))
(.block 0
(.seq
(.reg (oD 35 (.bin .eql (.t 24) (cI 1)) ::
oM 34 35 ::
[]))
(.cond (.t 34)
(.keep [0, 5]
(.reg (oM 36 0 ::
oM 37 0 ::
oD 38 (.nilck (.t 37)) ::
oD 39 (.fieldAddr 2 (.t 38)) ::
oL 40 39 ::
oD 41 (.call false (.f 74) [(.t 36), (.t 40)]) ::
[])))
(.seq
(.reg (oD 43 (.bin .eql (.t 24) (cI 2)) ::
oM 42 43 ::
[]))
(.cond (.t 42)
(.keep [0, 5]
(.reg (oM 44 0 ::
oM 45 0 ::
oD 46 (.nilck (.t 45)) ::
oD 47 (.fieldAddr 3 (.t 46)) ::
oL 48 47 ::
oD 49 (.call false (.f 74) [(.t 44), (.t 48)]) ::
[])))
(.keep [0, 1, 5]
(.regD ((oM 25 0, []) ::
(oD 26 (.nilck (.t 25)), []) ::
(oD 27 (.fieldAddr 1 (.t 26)), []) ::
(oL 28 27, []) ::
(oM 29 1, [0, 0, 0, 0]) ::
(oD 30 (.call false (.f 130) [(.t 29)]), [1, 0, 0, 0]) ::
(oD 31 (.bin .add (.t 28) (.t 30)), []) ::
(oD 32 (.nilck (.t 25)), []) ::
(oD 33 (.fieldAddr 1 (.t 32)), []) ::
(oN (.store 1 (.t 33) (.t 31)), []) ::
[])))))))))
(.seq
(.keep [5]
(.reg (oM 50 5 ::
oM 4 50 ::
[])))
.ret)))))
def rd_cursor_Cursor_Row : List RD := [.tmp 4 true (some (.int .u64))]
theorem ok_cursor_Cursor_Row : fnOk Tryz.prog Tryz.f131 ir_cursor_Cursor_Row rd_cursor_Cursor_Row = true := by kernel_rfl
def S_cursor_Cursor_Row : List AV → List Obj → Option (Prop × AV × List Obj)
  | [.ptr 0 0, .imm (.int .i64) w], [.box [.imm (.int .u8) b, .int .i64 p, .int .i64 sh, .int .i64 od, .int .i64 e, .bool true]] => some ((0 ≤ p ∧ p ≤ b.length ∧ b.length ≤ 140737488355328, .imm (.int .u64) (curL w b p e), [.box [.imm (.int .u8) b, .int .i64 (curP w b p e), .int .i64 sh, .int .i64 od, .int .i64 (curE w b p sh od e), .bool true]]))
  | _, _ => none
theorem snd_cursor_Cursor_Row : SoundS Tryz.prog 131 (RwF S_cursor_Cursor_Row).sum := by
  refine rw_fn Tryz.func131 ok_cursor_Cursor_Row (env_cons (s := RoF S_cursor_Cursor_Err) snd_cursor_Cursor_Err (env_cons (s := RoF S_row_Get) snd_row_Get (env_cons (s := RwF S_cursor_Cursor_Fail) snd_cursor_Cursor_Fail (env_cons (s := RoF S_row_Size) snd_row_Size (env_nil _))))) fun args objs p v o e => ?_
  unfold S_cursor_Cursor_Row at e
  split at e
  · rename_i w b p sh od e
    cases e
    refine ⟨rfl, fun hw ho hp => ?_⟩
    change List Int at w
    change List Int at b
    have hz := sizeW_le w
    repeat' (intro t ht; first | (cases t <;> first | (cases ht; done) | ((try simp only [bn_s] at ht); (try simp only [nd_s] at ht))) | (refine ht ?_ ?_ <;> clear ht) | (refine ht.1 ?_ ?_ <;> clear ht) | (refine ht ?_; clear ht))
    all_goals first
      | exact True.intro
      | ((try simp only [nd_s, bn_s, mm_s] at *); omega)
      | (unfold curL curP curE; simp_all [failE]; done)
      | trace_state
  · cases e
def numV (w : Int) (b : List Int) (p e : Int) : Int := if 1 ≤ w ∧ w ≤ 8 then (curL [w] b p e).getD 0 0 else 0
def numP (w : Int) (b : List Int) (p e : Int) : Int := if 1 ≤ w ∧ w ≤ 8 then curP [w] b p e else p
def numE (w : Int) (b : List Int) (p sh od e : Int) : Int := if 1 ≤ w ∧ w ≤ 8 then curE [w] b p sh od e else failE e 10001
def ir_cursor_Cursor_Num : IR :=
(.seq
(.keep [0, 1]
(.reg (oD 4 (.mov (.c (.int .u64 0))) ::
[])))
(.seq
(.seq
(.keep [0, 1]
(.reg (oM 7 1 ::
oD 8 (.bin .lss (.t 7) (cI 1)) ::
oM 9 8 ::
oF 9 10 (.mov (.t 1)) ::
oF 9 11 (.bin .gtr (.t 10) (cI 8)) ::
oD 12 (.pick (.t 9) cT (.t 11)) ::
[])))
(.cond (.t 12)
(.seq
(.keep [0]
(.reg (oM 13 0 ::
oD 14 (.call false (.f 74) [(.t 13), (cI 10001)]) ::
[])))
(.seq
(.reg (oD 4 (.mov (.c (.int .u64 0))) ::
[]))
.ret))
.skip))
(.seq
(.keep [0, 1]
(.reg (oM 15 0 ::
oD 16 (.mkfn 131 [(.t 15)] []) ::
oM 5 16 ::
[])))
(.seq
(.seq
(.keep [1, 5]
(.reg (oM 17 5 ::
oM 18 1 ::
oD 19 (.sliceAll (.int .i64) 1 [(0, 1, (.t 18))]) ::
oD 20 (.call false (.t 17) [(.t 19)]) ::
oM 6 20 ::
[])))
(.seq
(.reg (oM 21 6 ::
oD 22 (.len (.t 21)) ::
oD 23 (.bin .gtr (.t 22) (cI 0)) ::
[]))
(.cond (.t 23)
(.seq
(.keep [6]
(.reg (oM 24 6 ::
oD 25 (.indexSl 1 (.t 24) (cI 0)) ::
oL 26 25 ::
oM 4 26 ::
[])))
.ret)
.skip)))
(.seq
(.keep []
(.reg (oD 4 (.mov (.c (.int .u64 0))) ::
[])))
.ret)))))
def rd_cursor_Cursor_Num : List RD := [.tmp 4 true none]
theorem ok_cursor_Cursor_Num : fnOk Tryz.prog Tryz.f253 ir_cursor_Cursor_Num rd_cursor_Cursor_Num = true := by kernel_rfl
def S_cursor_Cursor_Num : List AV → List Obj → Option (Prop × AV × List Obj)
  | [.ptr 0 0, .int .i64 w], [.box [.imm (.int .u8) b, .int .i64 p, .int .i64 sh, .int .i64 od, .int .i64 e, .bool true]] => some ((0 ≤ p ∧ p ≤ b.length ∧ b.length ≤ 140737488355328, .int .u64 (numV w b p e), [.box [.imm (.int .u8) b, .int .i64 (numP w b p e), .int .i64 sh, .int .i64 od, .int .i64 (numE w b p sh od e), .bool true]]))
  | _, _ => none
theorem snd_cursor_Cursor_Num : SoundS Tryz.prog 253 (RwF S_cursor_Cursor_Num).sum := by
  refine rw_fn Tryz.func253 ok_cursor_Cursor_Num (env_cons (s := RwF S_cursor_Cursor_Fail) snd_cursor_Cursor_Fail (env_cons (s := RwF S_cursor_Cursor_Row) snd_cursor_Cursor_Row (env_nil _))) fun args objs p v o e => ?_
  unfold S_cursor_Cursor_Num at e
  split at e
  · rename_i w b p sh od e
    cases e
    refine ⟨rfl, fun hw ho hp => ?_⟩
    change List Int at b
    repeat' (intro t ht; first | (cases t <;> first | (cases ht; done) | ((try simp only [bn_s] at ht); (try simp only [nd_s] at ht))) | (refine ht ?_ ?_ <;> clear ht) | (refine ht.1 ?_ ?_ <;> clear ht) | (refine ht ?_; clear ht))
    all_goals first
      | exact True.intro
      | exact hp
      | ((try simp only [nd_s, bn_s, mm_s] at *); omega)
      | (have hc : 1 ≤ w ∧ w ≤ 8 := by omega
         unfold numV numP numE
         rw [if_pos hc, if_pos hc, if_pos hc]
         first
           | exact ⟨rfl, rfl⟩
           | (have hl : curL [w] b p e = [] := List.eq_nil_of_length_eq_zero (by omega)
              refine ⟨?_, rfl⟩; rw [hl]; rfl))
      | (have hc : ¬ (1 ≤ w ∧ w ≤ 8) := by omega
         unfold numV numP numE
         rw [if_neg hc, if_neg hc, if_neg hc]
         exact ⟨rfl, rfl⟩)
      | trace_state
  · cases e
theorem failE_ne {e x : Int} (h : x ≠ 0) : failE e x ≠ 0 := by unfold failE; split <;> assumption
def takeE (n : Int) (b : List Int) (p sh e : Int) : Int := if n < 0 then failE e 10001 else if b.length - p < n then failE e sh else e
def takeL (n : Int) (b : List Int) (p sh e : Int) : List Int := if takeE n b p sh e = 0 then (b.take (p + n).toNat).drop p.toNat else []
def takeP (n : Int) (b : List Int) (p sh e : Int) : Int := if takeE n b p sh e = 0 then p + n else p
def ir_cursor_Cursor_take : IR :=
(.seq
(.keep [0, 1]
(.reg (oD 4 (.mov (.c (.imm (.int .u8) []))) ::
oD 5 (.mov cF) ::
[])))
(.seq
(.seq
(.reg (oM 7 1 ::
oD 8 (.bin .lss (.t 7) (cI 0)) ::
[]))
(.cond (.t 8)
(.reg (oM 9 0 ::
oD 10 (.call false (.f 74) [(.t 9), (cI 10001)]) ::
[]))
(.seq
(.keep [0, 1]
(.reg (oM 11 1 ::
oM 12 0 ::
oD 13 (.call false (.f 32) [(.t 12)]) ::
oD 14 (.bin .gtr (.t 11) (.t 13)) ::
oM 15 14 ::
oT 15 16 (.mov (.t 0)) ::
oT 15 17 (.call false (.f 75) [(.t 16)]) ::
oT 15 18 (.un .not (.t 17)) ::
oD 19 (.pick (.t 15) (.t 18) cF) ::
[])))
(.cond (.t 19)
(.keep [0, 1]
(.reg (oM 20 0 ::
oM 21 0 ::
oD 22 (.nilck (.t 21)) ::
oD 23 (.fieldAddr 2 (.t 22)) ::
oL 24 23 ::
oD 25 (.call false (.f 74) [(.t 20), (.t 24)]) ::
[])))
.skip))))
(.seq
(.seq
(.keep [0, 1]
(.reg (oM 26 0 ::
oD 27 (.call false (.f 31) [(.t 26)]) ::
oD 28 (.bin .neq (.t 27) (cI 0)) ::
[])))
(.cond (.t 28)
(.seq
(.reg (oD 4 (.mov (.c (.imm (.int .u8) []))) ::
oD 5 (.mov cF) ::
[]))
.ret)
.skip))
(.seq
(.keep [0, 1]
(.regD ((oM 29 0, []) ::
(oD 30 (.nilck (.t 29)), []) ::
(oD 31 (.fieldAddr 0 (.t 30)), []) ::
(oL 32 31, []) ::
(oM 33 0, [0, 0, 0, 0]) ::
(oD 34 (.nilck (.t 33)), [1, 0, 0, 0]) ::
(oD 35 (.fieldAddr 1 (.t 34)), [2, 0, 0, 0]) ::
(oL 36 35, [3, 0, 0, 0]) ::
(oM 37 0, [0, 0, 0, 0, 0, 0, 0, 0]) ::
(oD 38 (.nilck (.t 37)), [1, 0, 0, 0, 0, 0, 0, 0]) ::
(oD 39 (.fieldAddr 1 (.t 38)), [2, 0, 0, 0, 0, 0, 0, 0]) ::
(oL 40 39, [3, 0, 0, 0, 0, 0, 0, 0]) ::
(oM 41 1, [0, 0, 0, 0, 0, 0, 0, 0, 0, 0, 0, 0]) ::
(oD 42 (.bin .add (.t 40) (.t 41)), [5, 0, 0, 0, 0, 0, 0, 0]) ::
(oM 43 0, [0, 0, 0, 0, 0, 0, 0, 0, 0, 0, 0, 0, 0, 0]) ::
(oD 44 (.nilck (.t 43)), [1, 0, 0, 0, 0, 0, 0, 0, 0, 0, 0, 0, 0, 0]) ::
(oD 45 (.fieldAddr 1 (.t 44)), [2, 0, 0, 0, 0, 0, 0, 0, 0, 0, 0, 0, 0, 0]) ::
(oL 46 45, [3, 0, 0, 0, 0, 0, 0, 0, 0, 0, 0, 0, 0, 0]) ::
(oM 47 1, [0, 0, 0, 0, 0, 0, 0, 0, 0, 0, 0, 0, 0, 0, 0, 0, 0, 0]) ::
(oD 48 (.bin .add (.t 46) (.t 47)), [5, 0, 0, 0, 0, 0, 0, 0, 0, 0, 0, 0, 0, 0]) ::
(oD 49 (.slice 1 (.t 32) (some (.t 36)) (some (.t 42)) (some (.t 48))), []) ::
(oM 6 49, []) ::
[])))
(.seq
(.keep [0, 1, 6]
(.reg (oM 50 0 ::
oD 51 (.nilck (.t 50)) ::
oD 52 (.fieldAddr 1 (.t 51)) ::
oL 53 52 ::
oM 54 1 ::
oD 55 (.bin .add (.t 53) (.t 54)) ::
oD 56 (.nilck (.t 50)) ::
oD 57 (.fieldAddr 1 (.t 56)) ::
oN (.store 1 (.t 57) (.t 55)) ::
[])))
(.seq
(.keep [6]
(.reg (oM 58 6 ::
oM 4 58 ::
oD 5 (.mov cT) ::
[])))
.ret))))))
def rd_cursor_Cursor_take : List RD := [.tmp 4 true (some (.int .u8)), .tmp 5 true none]
theorem ok_cursor_Cursor_take : fnOk Tryz.prog Tryz.f72 ir_cursor_Cursor_take rd_cursor_Cursor_take = true := by kernel_rfl
def S_cursor_Cursor_take : List AV → List Obj → Option (Prop × AV × List Obj)
  | [.ptr 0 0, .int .i64 n], [.box [.imm (.int .u8) b, .int .i64 p, .int .i64 sh, .int .i64 od, .int .i64 e, .bool true]] => some ((0 ≤ p ∧ p ≤ b.length ∧ b.length ≤ 140737488355328 ∧ sh ≠ 0, .tup [.imm (.int .u8) (takeL n b p sh e), .bool (decide (takeE n b p sh e = 0))], [.box [.imm (.int .u8) b, .int .i64 (takeP n b p sh e), .int .i64 sh, .int .i64 od, .int .i64 (takeE n b p sh e), .bool true]]))
  | _, _ => none
theorem snd_cursor_Cursor_take : SoundS Tryz.prog 72 (RwF S_cursor_Cursor_take).sum := by
  refine rw_fn Tryz.func72 ok_cursor_Cursor_take (env_cons (s := RwF S_cursor_Cursor_Fail) snd_cursor_Cursor_Fail (env_cons (s := RoF S_cursor_Cursor_Left) snd_cursor_Cursor_Left (env_cons (s := RoF S_cursor_Cursor_none) snd_cursor_Cursor_none (env_cons (s := RoF S_cursor_Cursor_Err) snd_cursor_Cursor_Err (env_nil _))))) fun args objs p v o e => ?_
  unfold S_cursor_Cursor_take at e
  split at e
  · rename_i n b p sh od e
    cases e
    refine ⟨rfl, fun hw ho hp => ?_⟩
    change List Int at b
    have hf1 : failE e 10001 ≠ 0 := failE_ne (by decide)
    have hf2 : failE e sh ≠ 0 := failE_ne hp.2.2.2
    repeat' (intro t ht; first | (cases t <;> first | (cases ht; done) | ((try simp only [bn_s] at ht); (try simp only [nd_s] at ht))) | (refine ht ?_ ?_ <;> clear ht) | (refine ht.1 ?_ ?_ <;> clear ht) | (refine ht ?_; clear ht))
    all_goals first
      | exact True.intro
      | (exfalso; omega)
      | omega
      | ((try simp only [nd_s, bn_s, mm_s] at *); omega)
      | (first
           | (have hE : takeE n b p sh e = e := by unfold takeE; rw [if_neg (by assumption), if_neg (by assumption)]
              unfold takeL takeP; rw [hE]
              first
                | (have h0 : e = 0 := by assumption
                   rw [if_pos h0, if_pos h0, decide_eq_true h0]; exact ⟨rfl, rfl⟩)
                | (have h0 : ¬ e = 0 := by assumption
                   rw [if_neg h0, if_neg h0, decide_eq_false h0]; exact ⟨rfl, rfl⟩))
           | (have hE : takeE n b p sh e = failE e sh := by unfold takeE; rw [if_neg (by assumption), if_pos (by assumption)]
              unfold takeL takeP; rw [hE, if_neg hf2, if_neg hf2, decide_eq_false hf2]; exact ⟨rfl, rfl⟩)
           | (have hE : takeE n b p sh e = failE e 10001 := by unfold takeE; rw [if_pos (by assumption)]
              unfold takeL takeP; rw [hE, if_neg hf1, if_neg hf1, decide_eq_false hf1]; exact ⟨rfl, rfl⟩))
      | trace_state
  · cases e
def ir_cursor_Cursor_Bytes : IR :=
(.seq
(.keep [0, 1]
(.reg (oD 4 (.mov (.c (.imm (.int .u8) []))) ::
[])))
(.seq
(.keep [0, 1]
(.reg (oM 8 0 ::
oM 9 1 ::
oD 10 (.call false (.f 72) [(.t 8), (.t 9)]) ::
oM 7 10 ::
oD 11 (.extract (.t 7) 0) ::
oD 12 (.extract (.t 7) 1) ::
oM 5 11 ::
oM 6 12 ::
[])))
(.seq
(.keep [5]
(.reg (oM 13 5 ::
oD 14 (.call false (.f 71) [(.t 13)]) ::
oM 4 14 ::
[])))
.ret)))
def rd_cursor_Cursor_Bytes : List RD := [.tmp 4 true (some (.int .u8))]
theorem ok_cursor_Cursor_Bytes : fnOk Tryz.prog Tryz.f29 ir_cursor_Cursor_Bytes rd_cursor_Cursor_Bytes = true := by kernel_rfl
def S_cursor_Cursor_Bytes : List AV → List Obj → Option (Prop × AV × List Obj)
  | [.ptr 0 0, .int .i64 n], [.box [.imm (.int .u8) b, .int .i64 p, .int .i64 sh, .int .i64 od, .int .i64 e, .bool true]] => some ((0 ≤ p ∧ p ≤ b.length ∧ b.length ≤ 140737488355328 ∧ sh ≠ 0, .imm (.int .u8) (takeL n b p sh e), [.box [.imm (.int .u8) b, .int .i64 (takeP n b p sh e), .int .i64 sh, .int .i64 od, .int .i64 (takeE n b p sh e), .bool true]]))
  | _, _ => none
theorem snd_cursor_Cursor_Bytes : SoundS Tryz.prog 29 (RwF S_cursor_Cursor_Bytes).sum := by
  refine rw_fn Tryz.func29 ok_cursor_Cursor_Bytes (env_cons (s := RwF S_cursor_Cursor_take) snd_cursor_Cursor_take (env_cons (s := RoF S_bytes_Clone) snd_bytes_Clone (env_nil _))) fun args objs p v o e => ?_
  unfold S_cursor_Cursor_Bytes at e
  split at e
  · rename_i n b p sh od e
    cases e
    refine ⟨rfl, fun hw ho hp => ?_⟩
    change List Int at b
    have hlen : (takeL n b p sh e).length ≤ 140737488355328 := by
      unfold takeL; split
      · rw [List.length_drop, List.length_take]; omega
      · exact Nat.zero_le _
    repeat' (intro t ht; first | (cases t <;> first | (cases ht; done) | ((try simp only [bn_s] at ht); (try simp only [nd_s] at ht))) | (refine ht ?_ ?_ <;> clear ht) | (refine ht.1 ?_ ?_ <;> clear ht) | (refine ht ?_; clear ht))
    all_goals first
      | exact hp
      | exact hlen
      | exact ⟨rfl, rfl⟩
      | trace_state
  · cases e
end Go.Eng
namespace Go.Eng
open Go.Proofs
set_option linter.unusedVariables false
set_option linter.unusedSimpArgs false
set_option maxRecDepth 100000
set_option maxHeartbeats 1000000
def ir_buffer_Buffer_none : IR :=
(.seq
(.keep [0]
(.reg (oD 2 (.mov cF) ::
[])))
(.seq
(.keep [0]
(.reg (oM 3 0 ::
oD 4 (.eqp false (.t 3) (.c (.nilp))) ::
oM 5 4 ::
oF 5 6 (.mov (.t 0)) ::
oF 5 7 (.nilck (.t 6)) ::
oF 5 8 (.fieldAddr 2 (.t 7)) ::
oF 5 9 (.load none (.t 8)) ::
oF 5 10 (.eqn false (.t 9) (.c (.nilm))) ::
oD 11 (.pick (.t 5) cT (.t 10)) ::
oM 2 11 ::
[])))
.ret))
def rd_buffer_Buffer_none : List RD := [.tmp 2 true none]
theorem ok_buffer_Buffer_none : fnOk Tryz.prog Tryz.f82 ir_buffer_Buffer_none rd_buffer_Buffer_none = true := by kernel_rfl
def S_buffer_Buffer_none : List AV → List Obj → Option (Prop × AV)
  | [.ptr 0 0], [.box [.own 1, .int .i64 room, .mapv 2, .int .i64 e], .row false (.int .u8) l, .map sq (.int .i64) (.int .i64) h] => some ((True, .bool false))
  | _, _ => none
theorem snd_buffer_Buffer_none : SoundS Tryz.prog 82 (RoF S_buffer_Buffer_none).sum := by
  refine ro_fn Tryz.func82 ok_buffer_Buffer_none (env_nil _) fun args objs p v e => ?_
  unfold S_buffer_Buffer_none at e
  split at e
  · rename_i room e l sq h
    cases e
    refine ⟨rfl, fun hw ho hp => ?_⟩
    change List Int at l
    repeat' (intro t ht; first | (cases t <;> first | (cases ht; done) | ((try simp only [bn_s] at ht); (try simp only [nd_s] at ht))) | (refine ht ?_ ?_ <;> clear ht) | (refine ht.1 ?_ ?_ <;> clear ht) | (refine ht ?_; clear ht))
    all_goals exact ⟨rfl, rfl⟩
  · cases e
def roomF (n : Int) : Int := if 1000000 < (if 0 > n then 0 else n) then 1000000 else (if 0 > n then 0 else n)
def ir_buffer_New : IR :=
(.seq
(.keep [0]
(.reg (oD 2 (.mov (.c (.nilp))) ::
[])))
(.seq
(.keep [0]
(.reg (oM 3 0 ::
oD 4 (.minmax true (.t 3) (cI 0)) ::
oD 5 (.minmax false (.t 4) (cI 1000000)) ::
oD 6 (.mkmap (.int .i64) (.int .i64)) ::
oD 7 (.build [.nils, .int .i64 0, .nilm, .int .i64 0] [(1, 1, (.t 5)), (2, 1, (.t 6))]) ::
oD 8 (.boxv (.t 7)) ::
oM 2 8 ::
[])))
.ret))
def rd_buffer_New : List RD := [.tmp 2 true none]
theorem ok_buffer_New : fnOk Tryz.prog Tryz.f38 ir_buffer_New rd_buffer_New = true := by kernel_rfl
def N_buffer_New : List AV → List Obj → Option (Prop × AV × List Obj)
  | [.int .i64 n], [] => some (True, .ptr 0 0, [.box [.nils, .int .i64 (roomF n), .mapv 1, .int .i64 0], .map true (.int .i64) (.int .i64) ([])])
  | _, _ => none
def S_buffer_New : List AV → List Obj → Option (Prop × AV × List Obj)
  | [.int .i64 n], [] => some (True, .ptr 0 0, [.box [.own 2, .int .i64 (roomF n), .mapv 1, .int .i64 0], .map true (.int .i64) (.int .i64) ([]), .row false (.int .u8) ([])])
  | _, _ => none
theorem snd_buffer_New : SoundS Tryz.prog 38 (RwF S_buffer_New).sum := by
  have h0 : SoundS Tryz.prog 38 (RwF N_buffer_New).sum := by
    refine rw_fn Tryz.func38 ok_buffer_New (env_nil _) fun args objs p v o e => ?_
    unfold N_buffer_New at e
    split at e
    · rename_i n
      cases e
      refine ⟨rfl, fun hw ho hp => ?_⟩
      repeat' (intro t ht; first | (cases t <;> first | (cases ht; done) | ((try simp only [bn_s] at ht); (try simp only [nd_s] at ht))) | (refine ht ?_ ?_ <;> clear ht) | (refine ht.1 ?_ ?_ <;> clear ht) | (refine ht ?_; clear ht))
      all_goals exact ⟨rfl, rfl⟩
    · cases e
  refine own_of_nils (t := .int .u8) h0 fun args objs p v o e => ?_
  unfold S_buffer_New at e
  split at e
  · rename_i n
    cases e
    exact ⟨0, [], [.int .i64 (roomF n), .mapv 1, .int .i64 0], _, rfl, rfl, rfl⟩
  · cases e
def ir_buffer_Buffer_Fail : IR :=
(.seq
(.keep [0, 1]
(.reg (oM 4 0 ::
oD 5 (.call false (.f 82) [(.t 4)]) ::
oD 6 (.un .not (.t 5)) ::
oM 7 6 ::
oT 7 8 (.mov (.t 0)) ::
oT 7 9 (.nilck (.t 8)) ::
oT 7 10 (.fieldAddr 3 (.t 9)) ::
oT 7 11 (.load none (.t 10)) ::
oT 7 12 (.bin .eql (.t 11) (cI 0)) ::
oD 13 (.pick (.t 7) (.t 12) cF) ::
[])))
(.cond (.t 13)
(.keep [0, 1]
(.reg (oM 14 0 ::
oM 15 1 ::
oD 16 (.nilck (.t 14)) ::
oD 17 (.fieldAddr 3 (.t 16)) ::
oN (.store 1 (.t 17) (.t 15)) ::
[])))
.skip))
def rd_buffer_Buffer_Fail : List RD := []
theorem ok_buffer_Buffer_Fail : fnOk Tryz.prog Tryz.f83 ir_buffer_Buffer_Fail rd_buffer_Buffer_Fail = true := by kernel_rfl
def S_buffer_Buffer_Fail : List AV → List Obj → Option (Prop × AV × List Obj)
  | [.ptr 0 0, .int .i64 x], [.box [.own 1, .int .i64 room, .mapv 2, .int .i64 e], .row false (.int .u8) l, .map sq (.int .i64) (.int .i64) h] => some ((True, .tup [], [.box [.own 1, .int .i64 room, .mapv 2, .int .i64 (failE e x)], .row false (.int .u8) l, .map sq (.int .i64) (.int .i64) h]))
  | _, _ => none
theorem snd_buffer_Buffer_Fail : SoundS Tryz.prog 83 (RwF S_buffer_Buffer_Fail).sum := by
  refine rw_fn Tryz.func83 ok_buffer_Buffer_Fail (env_cons (s := RoF S_buffer_Buffer_none) snd_buffer_Buffer_none (env_nil _)) fun args objs p v o e => ?_
  unfold S_buffer_Buffer_Fail at e
  split at e
  · rename_i x room e l sq h
    cases e
    refine ⟨rfl, fun hw ho hp => ?_⟩
    change List Int at l
    repeat' (intro t ht; first | (cases t <;> first | (cases ht; done) | ((try simp only [bn_s] at ht); (try simp only [nd_s] at ht))) | (refine ht ?_ ?_ <;> clear ht) | (refine ht.1 ?_ ?_ <;> clear ht) | (refine ht ?_; clear ht))
    all_goals first
      | exact True.intro
      | (unfold failE; simp_all; done)
      | trace_state
  · cases e
def bufOk (x l : List Int) (room e : Int) : Bool := decide (e = 0) && decide ((x.length : Int) ≤ room - l.length)
def bufB (x l : List Int) (room e : Int) : List Int := if bufOk x l room e = true then l ++ x else l
def bufE (x l : List Int) (room e : Int) : Int := if e = 0 then (if (x.length : Int) ≤ room - l.length then 0 else 10003) else e
def ir_buffer_Buffer_Bytes : IR :=
(.block 0
(.seq
(.keep [0, 1]
(.reg (oM 14 0 ::
oD 15 (.call false (.f 82) [(.t 14)]) ::
oM 16 15 ::
oF 16 17 (.mov (.t 0)) ::
oF 16 18 (.nilck (.t 17)) ::
oF 16 19 (.fieldAddr 3 (.t 18)) ::
oF 16 20 (.load none (.t 19)) ::
oF 16 21 (.bin .neq (.t 20) (cI 0)) ::
oD 22 (.pick (.t 16) cT (.t 21)) ::
oM 13 22 ::
[])))
(.cond (.t 13)
.skip
(.seq
(.keep [0, 1]
(.regD ((oM 24 1, []) ::
(oD 25 (.len (.t 24)), []) ::
(oM 26 0, [0, 0]) ::
(oD 27 (.nilck (.t 26)), [1, 0]) ::
(oD 28 (.fieldAddr 1 (.t 27)), [2, 0]) ::
(oL 29 28, [3, 0]) ::
(oM 30 0, [0, 0, 0, 0, 0, 0]) ::
(oD 31 (.nilck (.t 30)), [1, 0, 0, 0, 0, 0]) ::
(oD 32 (.fieldAddr 0 (.t 31)), [2, 0, 0, 0, 0, 0]) ::
(oL 33 32, [3, 0, 0, 0, 0, 0]) ::
(oD 34 (.len (.t 33)), [4, 0, 0, 0, 0, 0]) ::
(oD 35 (.bin .sub (.t 29) (.t 34)), [9, 0]) ::
(oD 36 (.bin .gtr (.t 25) (.t 35)), []) ::
(oM 23 36, []) ::
[])))
(.cond (.t 23)
(.keep [0]
(.reg (oM 37 0 ::
oD 38 (.call false (.f 83) [(.t 37), (cI 10003)]) ::
[])))
(.keep [0, 1]
(.reg (oM 4 0 ::
oM 5 0 ::
oD 6 (.nilck (.t 5)) ::
oD 7 (.fieldAddr 0 (.t 6)) ::
oL 8 7 ::
oM 9 1 ::
oD 10 (.append (.int .u8) 1 (.t 8) (.t 9)) ::
oD 11 (.nilck (.t 4)) ::
oD 12 (.fieldAddr 0 (.t 11)) ::
oN (.store 1 (.t 12) (.t 10)) ::
[]))))))))
def rd_buffer_Buffer_Bytes : List RD := []
theorem ok_buffer_Buffer_Bytes : fnOk Tryz.prog Tryz.f39 ir_buffer_Buffer_Bytes rd_buffer_Buffer_Bytes = true := by kernel_rfl
def W_buffer_Buffer_Bytes : List AV → List Obj → Option (Prop × Res)
  | [.ptr 0 0, .imm (.int .u8) x], [.box [.own 1, .int .i64 room, .mapv 2, .int .i64 e], .row false (.int .u8) l, .map sq (.int .i64) (.int .i64) h] => some (0 ≤ room ∧ room ≤ 1000000 ∧ l.length ≤ 1000000 ∧ x.length ≤ 1000000, .br (bufOk x l room e) (.one (.tup []) [.box [.own 3, .int .i64 room, .mapv 2, .int .i64 e], .dead, .map sq (.int .i64) (.int .i64) h, .row false (.int .u8) (bufB x l room e)]) (.one (.tup []) [.box [.own 1, .int .i64 room, .mapv 2, .int .i64 (bufE x l room e)], .row false (.int .u8) l, .map sq (.int .i64) (.int .i64) h]))
  | _, _ => none
def S_buffer_Buffer_Bytes : List AV → List Obj → Option (Prop × AV × List Obj)
  | [.ptr 0 0, .imm (.int .u8) x], [.box [.own 1, .int .i64 room, .mapv 2, .int .i64 e], .row false (.int .u8) l, .map sq (.int .i64) (.int .i64) h] => some (0 ≤ room ∧ room ≤ 1000000 ∧ l.length ≤ 1000000 ∧ x.length ≤ 1000000, .tup [], [.box [.own 3, .int .i64 room, .mapv 2, .int .i64 (bufE x l room e)], .dead, .map sq (.int .i64) (.int .i64) h, .row false (.int .u8) (bufB x l room e)])
  | _, _ => none
theorem wnd_buffer_Buffer_Bytes : SoundS Tryz.prog 39 (RcF W_buffer_Buffer_Bytes).sum := by
  refine rc_fn Tryz.func39 ok_buffer_Buffer_Bytes (env_cons (s := RoF S_buffer_Buffer_none) snd_buffer_Buffer_none (env_cons (s := RwF S_buffer_Buffer_Fail) snd_buffer_Buffer_Fail (env_nil _))) fun args objs p v e => ?_
  unfold W_buffer_Buffer_Bytes at e
  split at e
  · rename_i x room e l sq h
    cases e
    change List Int at x
    change List Int at l
    refine ⟨rfl, fun hw ho hp => ?_⟩
    repeat' (intro t ht; first | (cases t <;> first | (cases ht; done) | ((try simp only [bn_s] at ht); (try simp only [nd_s] at ht))) | (refine ht ?_ ?_ <;> clear ht) | (refine ht.1 ?_ ?_ <;> clear ht) | (refine ht ?_; clear ht))
    all_goals first
      | exact True.intro
      | ((try simp only [nd_s, bn_s, mm_s] at *); omega)
      | (simp only [cast_rfl]; omega)
      | (have hb : bufOk x l room e = true := by unfold bufOk; simp only [Bool.and_eq_true, decide_eq_true_eq]; omega
         have hbb : bufB x l room e = l ++ x := by unfold bufB; rw [hb]; rfl
         rw [pick_t hb, hbb]; exact ⟨rfl, rfl⟩)
      | (have hb : bufOk x l room e = false := by unfold bufOk; simp only [Bool.and_eq_false_iff, decide_eq_false_iff_not]; omega
         rw [pick_f hb]
         unfold bufE
         first
           | (rw [if_neg (by assumption)]; exact ⟨rfl, rfl⟩)
           | (have h0 : e = 0 := by assumption
              have h1 : ¬ (x.length : Int) ≤ room - l.length := by omega
              rw [if_pos h0, if_neg h1]
              refine ⟨rfl, ?_⟩; unfold failE; rw [if_pos h0]; rfl))
      | trace_state
  · cases e
theorem snd_buffer_Buffer_Bytes : SoundS Tryz.prog 39 (RwF S_buffer_Buffer_Bytes).sum := by
  refine rc_move wnd_buffer_Buffer_Bytes fun args objs p v o e => ?_
  unfold S_buffer_Buffer_Bytes at e
  split at e
  · rename_i x room e l sq h
    cases e
    cases hb : bufOk x l room e with
    | true =>
      have h1 : e = 0 := by unfold bufOk at hb; simp_all
      have h2 : (x.length : Int) ≤ room - l.length := by unfold bufOk at hb; simp_all
      refine ⟨_, _, rfl, pick_t hb, .inl ?_⟩
      unfold bufE; rw [if_pos h1, if_pos h2, h1]
    | false =>
      refine ⟨_, _, rfl, pick_f hb, .inr ⟨0, 1, [], [.int .i64 room, .mapv 2, .int .i64 (bufE x l room e)], .int .u8, l, rfl, rfl, ?_⟩⟩
      have hbb : bufB x l room e = l := by unfold bufB; rw [hb]; rfl
      rw [hbb]; rfl
  · cases e
theorem putA_len : ∀ (w xs b r : List Int), (∀ n ∈ w, n ≠ 0 ∧ n ≤ 8 ∧ -64 ≤ n) → putA w xs b = some r → (r.length : Int) = b.length + (w.map absI).sum
  | [], xs, b, r, _, h => by simp only [putA, Option.some.injEq] at h; subst h; simp
  | n :: w, xs, b, r, hw, h => by
    have hn := hw n (by simp)
    have hw' : ∀ n ∈ w, n ≠ 0 ∧ n ≤ 8 ∧ -64 ≤ n := fun m hm => hw m (by simp [hm])
    simp only [putA] at h
    split at h
    · have ih := putA_len w _ _ r hw' h
      have hl := bytesN_len (n := 0) (w := 0 - n) (by omega)
      rw [List.length_append] at ih
      rw [List.map_cons, List.sum_cons, absI_neg (by assumption)]; omega
    · cases xs with
      | nil => cases h
      | cons x ys =>
        simp only at h
        split at h
        · cases h
        · have ih := putA_len w _ _ r hw' h
          have hl := bytesN_len (n := x) (w := n) (by omega)
          rw [List.length_append] at ih
          rw [List.map_cons, List.sum_cons, absI_nn (by assumption)]; omega
theorem putB_len (w xs : List Int) : (putB w xs).length ≤ 4096 := by
  unfold putB putF
  split
  · rename_i h
    cases hp : putA w xs [] with
    | none => simp
    | some r =>
      have h1 := putA_len w xs [] r (rightF_t.1 h.1).2 hp
      have h2 := sizeW_le w
      unfold sizeW at h2; rw [if_pos h.1] at h2
      simp at h1 ⊢; omega
  · simp
def rowB (w xs l : List Int) (room e : Int) : List Int := if putK w xs = true then bufB (putB w xs) l room e else l
def rowE (w xs l : List Int) (room e : Int) : Int := if putK w xs = true then bufE (putB w xs) l room e else failE e 10001
def ir_buffer_Buffer_Row : IR :=
(.seq
(.keep [0, 1, 2]
(.reg (oM 9 1 ::
oM 10 2 ::
oD 11 (.call false (.f 167) [(.t 9), (.t 10)]) ::
oM 8 11 ::
oD 12 (.extract (.t 8) 0) ::
oD 13 (.extract (.t 8) 1) ::
oM 6 12 ::
oM 7 13 ::
[])))
(.seq
(.seq
(.keep [0, 6, 7]
(.reg (oM 14 7 ::
oD 15 (.un .not (.t 14)) ::
[])))
(.cond (.t 15)
(.seq
(.reg (oM 16 0 ::
oD 17 (.call false (.f 83) [(.t 16), (cI 10001)]) ::
[]))
.ret)
.skip))
(.reg (oM 18 0 ::
oM 19 6 ::
oD 20 (.call false (.f 39) [(.t 18), (.t 19)]) ::
[]))))
def rd_buffer_Buffer_Row : List RD := []
theorem ok_buffer_Buffer_Row : fnOk Tryz.prog Tryz.f112 ir_buffer_Buffer_Row rd_buffer_Buffer_Row = true := by kernel_rfl
def W_buffer_Buffer_Row : List AV → List Obj → Option (Prop × Res)
  | [.ptr 0 0, .imm (.int .i64) w, .imm (.int .u64) xs], [.box [.own 1, .int .i64 room, .mapv 2, .int .i64 e], .row false (.int .u8) l, .map sq (.int .i64) (.int .i64) h] => some (0 ≤ room ∧ room ≤ 1000000 ∧ l.length ≤ 1000000, .br (putK w xs) (.one (.tup []) [.box [.own 3, .int .i64 room, .mapv 2, .int .i64 (bufE (putB w xs) l room e)], .dead, .map sq (.int .i64) (.int .i64) h, .row false (.int .u8) (bufB (putB w xs) l room e)]) (.one (.tup []) [.box [.own 1, .int .i64 room, .mapv 2, .int .i64 (failE e 10001)], .row false (.int .u8) l, .map sq (.int .i64) (.int .i64) h]))
  | _, _ => none
def S_buffer_Buffer_Row : List AV → List Obj → Option (Prop × AV × List Obj)
  | [.ptr 0 0, .imm (.int .i64) w, .imm (.int .u64) xs], [.box [.own 1, .int .i64 room, .mapv 2, .int .i64 e], .row false (.int .u8) l, .map sq (.int .i64) (.int .i64) h] => some (0 ≤ room ∧ room ≤ 1000000 ∧ l.length ≤ 1000000, .tup [], [.box [.own 3, .int .i64 room, .mapv 2, .int .i64 (rowE w xs l room e)], .dead, .map sq (.int .i64) (.int .i64) h, .row false (.int .u8) (rowB w xs l room e)])
  | _, _ => none
theorem wnd_buffer_Buffer_Row : SoundS Tryz.prog 112 (RcF W_buffer_Buffer_Row).sum := by
  refine rc_fn Tryz.func112 ok_buffer_Buffer_Row (env_cons (s := RoF S_row_Put) snd_row_Put (env_cons (s := RwF S_buffer_Buffer_Fail) snd_buffer_Buffer_Fail (env_cons (s := RwF S_buffer_Buffer_Bytes) snd_buffer_Buffer_Bytes (env_nil _)))) fun args objs p v e => ?_
  unfold W_buffer_Buffer_Row at e
  split at e
  · rename_i w xs room e l sq h
    cases e
    refine ⟨rfl, fun hw ho hp => ?_⟩
    have hz := putB_len w xs
    repeat' (intro t ht; first | (cases t <;> first | (cases ht; done) | ((try simp only [bn_s] at ht); (try simp only [nd_s] at ht))) | (refine ht ?_ ?_ <;> clear ht) | (refine ht.1 ?_ ?_ <;> clear ht) | (refine ht ?_; clear ht))
    all_goals first
      | exact True.intro
      | exact ⟨hp.1, hp.2.1, hp.2.2, by omega⟩
      | (rw [pick_t (by assumption)]; exact ⟨rfl, rfl⟩)
      | (rw [pick_f (by assumption)]; exact ⟨rfl, rfl⟩)
      | trace_state
  · cases e
theorem snd_buffer_Buffer_Row : SoundS Tryz.prog 112 (RwF S_buffer_Buffer_Row).sum := by
  refine rc_move wnd_buffer_Buffer_Row fun args objs p v o e => ?_
  unfold S_buffer_Buffer_Row at e
  split at e
  · rename_i w xs room e l sq h
    cases e
    cases hb : putK w xs with
    | true =>
      refine ⟨_, _, rfl, pick_t hb, .inl ?_⟩
      unfold rowE rowB; rw [if_pos hb, if_pos hb]
    | false =>
      refine ⟨_, _, rfl, pick_f hb, .inr ⟨0, 1, [], [.int .i64 room, .mapv 2, .int .i64 (failE e 10001)], .int .u8, l, rfl, rfl, ?_⟩⟩
      unfold rowE rowB; rw [hb]; rfl
  · cases e
def wideB (w : Int) : Bool := decide (1 ≤ w) && decide (w ≤ 8)
def wideE (w e : Int) : Int := if wideB w = true then e else failE e 10001
def ir_buffer_Buffer_wide : IR :=
(.seq
(.keep [0, 1]
(.reg (oD 4 (.mov cF) ::
[])))
(.seq
(.keep [0, 1]
(.reg (oM 6 1 ::
oD 7 (.bin .geq (.t 6) (cI 1)) ::
oM 8 7 ::
oT 8 9 (.mov (.t 1)) ::
oT 8 10 (.bin .leq (.t 9) (cI 8)) ::
oD 11 (.pick (.t 8) (.t 10) cF) ::
oM 5 11 ::
[])))
(.seq
(.seq
(.keep [0, 5]
(.reg (oM 12 5 ::
oD 13 (.un .not (.t 12)) ::
[])))
(.cond (.t 13)
(.reg (oM 14 0 ::
oD 15 (.call false (.f 83) [(.t 14), (cI 10001)]) ::
[]))
.skip))
(.seq
(.reg (oM 16 5 ::
oM 4 16 ::
[]))
.ret))))
def rd_buffer_Buffer_wide : List RD := [.tmp 4 true none]
theorem ok_buffer_Buffer_wide : fnOk Tryz.prog Tryz.f276 ir_buffer_Buffer_wide rd_buffer_Buffer_wide = true := by kernel_rfl
def S_buffer_Buffer_wide : List AV → List Obj → Option (Prop × AV × List Obj)
  | [.ptr 0 0, .int .i64 w], [.box [.own 1, .int .i64 room, .mapv 2, .int .i64 e], .row false (.int .u8) l, .map sq (.int .i64) (.int .i64) h] => some ((True, .bool (wideB w), [.box [.own 1, .int .i64 room, .mapv 2, .int .i64 (wideE w e)], .row false (.int .u8) l, .map sq (.int .i64) (.int .i64) h]))
  | _, _ => none
theorem snd_buffer_Buffer_wide : SoundS Tryz.prog 276 (RwF S_buffer_Buffer_wide).sum := by
  refine rw_fn Tryz.func276 ok_buffer_Buffer_wide (env_cons (s := RwF S_buffer_Buffer_Fail) snd_buffer_Buffer_Fail (env_nil _)) fun args objs p v o e => ?_
  unfold S_buffer_Buffer_wide at e
  split at e
  · rename_i w room e l sq h
    cases e
    refine ⟨rfl, fun hw ho hp => ?_⟩
    change List Int at l
    repeat' (intro t ht; first | (cases t <;> first | (cases ht; done) | ((try simp only [bn_s] at ht); (try simp only [nd_s] at ht))) | (refine ht ?_ ?_ <;> clear ht) | (refine ht.1 ?_ ?_ <;> clear ht) | (refine ht ?_; clear ht))
    all_goals first
      | exact True.intro
      | (have hb : wideB w = true := by unfold wideB; simp_all
         have h8 : decide (w ≤ 8) = true := decide_eq_true (by assumption)
         unfold wideE; rw [hb, h8]; exact ⟨rfl, rfl⟩)
      | (have hb : wideB w = false := by unfold wideB; simp_all
         have h8 : decide (w ≤ 8) = false := decide_eq_false (by assumption)
         unfold wideE; rw [hb, h8]; exact ⟨rfl, rfl⟩)
      | (have hb : wideB w = false := by unfold wideB; simp only [Bool.and_eq_false_iff, decide_eq_false_iff_not]; omega
         unfold wideE; rw [hb]; exact ⟨rfl, rfl⟩)
      | trace_state
  · cases e
def nmB (w n : Int) (l : List Int) (room e : Int) : List Int := if wideB w = true then rowB [w] [n] l room e else l
def nmE (w n : Int) (l : List Int) (room e : Int) : Int := if wideB w = true then rowE [w] [n] l room e else failE e 10001
def ir_buffer_Buffer_Num : IR :=
(.seq
(.keep [0, 1, 2]
(.reg (oM 6 0 ::
oM 7 1 ::
oD 8 (.call false (.f 276) [(.t 6), (.t 7)]) ::
[])))
(.cond (.t 8)
(.keep [0, 1, 2]
(.reg (oM 9 0 ::
oM 10 1 ::
oD 11 (.sliceAll (.int .i64) 1 [(0, 1, (.t 10))]) ::
oM 12 2 ::
oD 13 (.sliceAll (.int .u64) 1 [(0, 1, (.t 12))]) ::
oD 14 (.call false (.f 112) [(.t 9), (.t 11), (.t 13)]) ::
[])))
.skip))
def rd_buffer_Buffer_Num : List RD := []
theorem ok_buffer_Buffer_Num : fnOk Tryz.prog Tryz.f249 ir_buffer_Buffer_Num rd_buffer_Buffer_Num = true := by kernel_rfl
def W_buffer_Buffer_Num : List AV → List Obj → Option (Prop × Res)
  | [.ptr 0 0, .int .i64 w, .int .u64 n], [.box [.own 1, .int .i64 room, .mapv 2, .int .i64 e], .row false (.int .u8) l, .map sq (.int .i64) (.int .i64) h] => some (0 ≤ room ∧ room ≤ 1000000 ∧ l.length ≤ 1000000, .br (wideB w) (.one (.tup []) [.box [.own 3, .int .i64 room, .mapv 2, .int .i64 (rowE [w] [n] l room (wideE w e))], .dead, .map sq (.int .i64) (.int .i64) h, .row false (.int .u8) (rowB [w] [n] l room (wideE w e))]) (.one (.tup []) [.box [.own 1, .int .i64 room, .mapv 2, .int .i64 (wideE w e)], .row false (.int .u8) l, .map sq (.int .i64) (.int .i64) h]))
  | _, _ => none
def S_buffer_Buffer_Num : List AV → List Obj → Option (Prop × AV × List Obj)
  | [.ptr 0 0, .int .i64 w, .int .u64 n], [.box [.own 1, .int .i64 room, .mapv 2, .int .i64 e], .row false (.int .u8) l, .map sq (.int .i64) (.int .i64) h] => some (0 ≤ room ∧ room ≤ 1000000 ∧ l.length ≤ 1000000, .tup [], [.box [.own 3, .int .i64 room, .mapv 2, .int .i64 (nmE w n l room e)], .dead, .map sq (.int .i64) (.int .i64) h, .row false (.int .u8) (nmB w n l room e)])
  | _, _ => none
theorem wnd_buffer_Buffer_Num : SoundS Tryz.prog 249 (RcF W_buffer_Buffer_Num).sum := by
  refine rc_fn Tryz.func249 ok_buffer_Buffer_Num (env_cons (s := RwF S_buffer_Buffer_wide) snd_buffer_Buffer_wide (env_cons (s := RwF S_buffer_Buffer_Row) snd_buffer_Buffer_Row (env_nil _))) fun args objs p v e => ?_
  unfold W_buffer_Buffer_Num at e
  split at e
  · rename_i w n room e l sq h
    cases e
    refine ⟨rfl, fun hw ho hp => ?_⟩
    repeat' (intro t ht; first | (cases t <;> first | (cases ht; done) | ((try simp only [bn_s] at ht); (try simp only [nd_s] at ht))) | (refine ht ?_ ?_ <;> clear ht) | (refine ht.1 ?_ ?_ <;> clear ht) | (refine ht ?_; clear ht))
    all_goals first
      | exact True.intro
      | exact hp
      | (rw [pick_t (by assumption)]; exact ⟨rfl, rfl⟩)
      | (rw [pick_f (by assumption)]; exact ⟨rfl, rfl⟩)
      | trace_state
  · cases e
theorem snd_buffer_Buffer_Num : SoundS Tryz.prog 249 (RwF S_buffer_Buffer_Num).sum := by
  refine rc_move wnd_buffer_Buffer_Num fun args objs p v o e => ?_
  unfold S_buffer_Buffer_Num at e
  split at e
  · rename_i w n room e l sq h
    cases e
    cases hb : wideB w with
    | true =>
      refine ⟨_, _, rfl, pick_t hb, .inl ?_⟩
      unfold nmE nmB wideE; rw [hb]; rfl
    | false =>
      refine ⟨_, _, rfl, pick_f hb, .inr ⟨0, 1, [], [.int .i64 room, .mapv 2, .int .i64 (wideE w e)], .int .u8, l, rfl, rfl, ?_⟩⟩
      unfold nmE nmB wideE; rw [hb]; rfl
  · cases e
def doneB (h : List (Int × Int)) (e : Int) : Bool := decide (e = 0) && decide (h.length = 0)
def doneL (l : List Int) (h : List (Int × Int)) (e : Int) : List Int := if doneB h e = true then l else []
def doneE (h : List (Int × Int)) (e : Int) : Int := if e = 0 then (if h.length = 0 then 0 else 10001) else e
def ir_buffer_Buffer_Done : IR :=
(.seq
(.keep [0]
(.reg (oD 2 (.mov (.c (.imm (.int .u8) []))) ::
oD 3 (.mov (cI 0)) ::
[])))
(.seq
(.block 0
(.seq
(.reg (oM 5 0 ::
oD 6 (.call false (.f 82) [(.t 5)]) ::
oM 4 6 ::
[]))
(.cond (.t 4)
(.seq
(.reg (oD 2 (.mov (.c (.imm (.int .u8) []))) ::
oD 3 (.mov (cI 10001)) ::
[]))
.ret)
(.seq
(.keep [0]
(.reg (oM 8 0 ::
oD 9 (.nilck (.t 8)) ::
oD 10 (.fieldAddr 3 (.t 9)) ::
oL 11 10 ::
oD 12 (.bin .neq (.t 11) (cI 0)) ::
oM 7 12 ::
[])))
(.cond (.t 7)
(.seq
(.keep [0]
(.regD ((oM 13 0, []) ::
(oD 14 (.nilck (.t 13)), []) ::
(oD 15 (.fieldAddr 3 (.t 14)), []) ::
(oL 16 15, []) ::
(oD 2 (.mov (.c (.imm (.int .u8) []))), [0, 0, 0, 0]) ::
(oM 3 16, []) ::
[])))
.ret)
(.seq
(.keep [0]
(.reg (oM 18 0 ::
oD 19 (.nilck (.t 18)) ::
oD 20 (.fieldAddr 2 (.t 19)) ::
oL 21 20 ::
oD 22 (.mlen (.t 21)) ::
oD 23 (.bin .gtr (.t 22) (cI 0)) ::
oM 17 23 ::
[])))
(.cond (.t 17)
(.seq
(.keep []
(.reg (oD 2 (.mov (.c (.imm (.int .u8) []))) ::
oD 3 (.mov (cI 10001)) ::
[])))
.ret)
.skip)))))))
(.seq
(.keep [0]
(.reg (oM 24 0 ::
oD 25 (.nilck (.t 24)) ::
oD 26 (.fieldAddr 0 (.t 25)) ::
oL 27 26 ::
oD 28 (.call false (.f 71) [(.t 27)]) ::
oM 2 28 ::
oD 3 (.mov (cI 0)) ::
[])))
.ret)))
def rd_buffer_Buffer_Done : List RD := [.tmp 2 true (some (.int .u8)), .tmp 3 true none]
theorem ok_buffer_Buffer_Done : fnOk Tryz.prog Tryz.f41 ir_buffer_Buffer_Done rd_buffer_Buffer_Done = true := by kernel_rfl
def W_buffer_Buffer_Done : List AV → List Obj → Option (Prop × Res)
  | [.ptr 0 0], [.box [.own 1, .int .i64 room, .mapv 2, .int .i64 e], .row false (.int .u8) l, .map sq (.int .i64) (.int .i64) h] => some (l.length ≤ 140737488355328 ∧ h.length ≤ 140737488355328, .br (doneB h e) (.one (.tup [.imm (.int .u8) l, .int .i64 0]) [.box [.own 1, .int .i64 room, .mapv 2, .int .i64 e], .row true (.int .u8) l, .map sq (.int .i64) (.int .i64) h]) (.one (.tup [.imm (.int .u8) [], .int .i64 (doneE h e)]) [.box [.own 1, .int .i64 room, .mapv 2, .int .i64 e], .row false (.int .u8) l, .map sq (.int .i64) (.int .i64) h]))
  | _, _ => none
def S_buffer_Buffer_Done : List AV → List Obj → Option (Prop × AV × List Obj)
  | [.ptr 0 0], [.box [.own 1, .int .i64 room, .mapv 2, .int .i64 e], .row false (.int .u8) l, .map sq (.int .i64) (.int .i64) h] => some (l.length ≤ 140737488355328 ∧ h.length ≤ 140737488355328, .tup [.imm (.int .u8) (doneL l h e), .int .i64 (doneE h e)], [.box [.own 1, .int .i64 room, .mapv 2, .int .i64 e], .dead, .map sq (.int .i64) (.int .i64) h])
  | _, _ => none
theorem wnd_buffer_Buffer_Done : SoundS Tryz.prog 41 (RcF W_buffer_Buffer_Done).sum := by
  refine rc_fn Tryz.func41 ok_buffer_Buffer_Done (env_cons (s := RoF S_buffer_Buffer_none) snd_buffer_Buffer_none (env_cons (s := RoF S_bytes_Clone) snd_bytes_Clone (env_nil _))) fun args objs p v e => ?_
  unfold W_buffer_Buffer_Done at e
  split at e
  · rename_i room e l sq h
    cases e
    change List (Int × Int) at h
    refine ⟨rfl, fun hw ho hp => ?_⟩
    repeat' (intro t ht; first | (cases t <;> first | (cases ht; done) | ((try simp only [bn_s] at ht); (try simp only [nd_s] at ht))) | (refine ht ?_ ?_ <;> clear ht) | (refine ht.1 ?_ ?_ <;> clear ht) | (refine ht ?_; clear ht))
    all_goals first
      | exact True.intro
      | exact hp.1
      | exact hp.2
      | (have hb : doneB h e = true := by unfold doneB; simp only [Bool.and_eq_true, decide_eq_true_eq]; omega
         rw [pick_t hb]; exact ⟨rfl, rfl⟩)
      | (have hb : doneB h e = false := by unfold doneB; simp only [Bool.and_eq_false_iff, decide_eq_false_iff_not]; omega
         rw [pick_f hb]
         unfold doneE
         first
           | (rw [if_neg (by assumption)]; exact ⟨rfl, rfl⟩)
           | (have h0 : e = 0 := by assumption
              have h1 : ¬ h.length = 0 := by omega
              rw [if_pos h0, if_neg h1]; exact ⟨rfl, rfl⟩))
      | trace_state
  · cases e
theorem snd_buffer_Buffer_Done : SoundS Tryz.prog 41 (RwF S_buffer_Buffer_Done).sum := by
  refine rc_kill wnd_buffer_Buffer_Done fun args objs p v o e => ?_
  unfold S_buffer_Buffer_Done at e
  split at e
  · rename_i room e l sq h
    cases e
    change List (Int × Int) at h
    cases hb : doneB h e with
    | true =>
      have h1 : e = 0 := by unfold doneB at hb; simp_all
      have h2 : h.length = 0 := by unfold doneB at hb; simp_all
      refine ⟨_, [.box [.own 1, .int .i64 room, .mapv 2, .int .i64 e], .row true (.int .u8) l, .map sq (.int .i64) (.int .i64) h], 1, rfl, ?_, by simp, rfl⟩
      rw [pick_t hb]; unfold doneL doneE; rw [if_pos hb, if_pos h1, if_pos h2]; rfl
    | false =>
      refine ⟨_, [.box [.own 1, .int .i64 room, .mapv 2, .int .i64 e], .row false (.int .u8) l, .map sq (.int .i64) (.int .i64) h], 1, rfl, ?_, by simp, rfl⟩
      rw [pick_f hb]; unfold doneL; rw [hb]; rfl
  · cases e
end Go.Eng
