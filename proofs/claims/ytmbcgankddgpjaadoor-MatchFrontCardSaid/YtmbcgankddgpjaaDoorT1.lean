/- Contracts of functions of the given program, told by plain Lean functions. No condition. -/
import Derived.Test.YtmbcgankddgpjaaDoorProg
import Derived.Test.YtmbcgankddgpjaaDoorEArg
import Derived.KernelRfl
import Derived.Test.YtmbcgankddgpjaaDoorR4
namespace Go.Eng
open Go.Proofs
set_option linter.unusedVariables false
set_option linter.unusedSimpArgs false
set_option maxRecDepth 100000
set_option maxHeartbeats 1000000
def trimRn (b : List Int) (c : Int) : Nat → Nat
  | 0 => 0
  | k + 1 => if b.getD k 0 = c then trimRn b c k else k + 1
def trimR (b : List Int) (c : Int) : List Int := b.take (trimRn b c b.length)
theorem trimRn_le (b : List Int) (c : Int) : ∀ k, trimRn b c k ≤ k
  | 0 => Nat.le_refl _
  | k + 1 => by unfold trimRn; split; have := trimRn_le b c k; omega; omega
def trimL (b : List Int) (c : Int) : List Int := b.dropWhile fun x => decide (x = c)
theorem take_getD {b : List Int} {k j : Nat} (h : j < k) : (b.take k).getD j 0 = b.getD j 0 := by
  rw [List.getD_eq_getElem?_getD, List.getElem?_take, if_pos h, ← List.getD_eq_getElem?_getD]
def ir_bytes_trimRightByte : IR :=
(.seq
(.keep [0, 1]
(.reg (oD 4 (.mov (.c (.imm (.int .u8) []))) ::
[])))
(.seq
(.block 0
(.loop
(.seq
(.seq
(.keep [0, 1]
(.reg (oM 5 0 ::
oD 6 (.len (.t 5)) ::
oD 7 (.bin .gtr (.t 6) (cI 0)) ::
oM 8 7 ::
oT 8 9 (.mov (.t 0)) ::
oT 8 10 (.mov (.t 0)) ::
oT 8 11 (.len (.t 10)) ::
oT 8 12 (.bin .sub (.t 11) (cI 1)) ::
oT 8 13 (.indexSl 1 (.t 9) (.t 12)) ::
oT 8 14 (.load none (.t 13)) ::
oT 8 15 (.mov (.t 1)) ::
oT 8 16 (.bin .eql (.t 14) (.t 15)) ::
oD 17 (.pick (.t 8) (.t 16) cF) ::
[])))
(.cond (.t 17)
.skip
(.exit 0)))
(.block 1
(.keep [0, 1]
(.reg (oM 18 0 ::
oM 19 0 ::
oD 20 (.len (.t 19)) ::
oD 21 (.bin .sub (.t 20) (cI 1)) ::
oD 22 (.slice 1 (.t 18) none (some (.t 21)) none) ::
oM 0 22 ::
[])))))))
(.seq
(.keep [0]
(.reg (oM 23 0 ::
oM 4 23 ::
[])))
.ret)))
def rd_bytes_trimRightByte : List RD := [.tmp 4 true (some (.int .u8))]
theorem ok_bytes_trimRightByte : fnOk Tryd.prog Tryd.f124 ir_bytes_trimRightByte rd_bytes_trimRightByte = true := by kernel_rfl
def S_bytes_trimRightByte : List AV → List Obj → Option (Prop × AV)
  | [.imm (.int .u8) b, .int .u8 c], [] => some ((b.length ≤ 140737488355328, .imm (.int .u8) (trimR b c)))
  | _, _ => none
theorem snd_bytes_trimRightByte : SoundS Tryd.prog 124 (RoF S_bytes_trimRightByte).sum := by
  refine ro_fn Tryd.func124 ok_bytes_trimRightByte (env_nil _) fun args objs p v e => ?_
  unfold S_bytes_trimRightByte at e
  split at e
  · rename_i b c
    cases e
    refine ⟨rfl, fun hw ho hp => ?_⟩
    change List Int at b
    repeat' (intro t ht; first | (cases t <;> first | (cases ht; done) | ((try simp only [bn_s] at ht); (try simp only [nd_s] at ht))) | (refine ht ?_ ?_ <;> clear ht) | (refine ht.1 ?_ ?_ <;> clear ht) | (refine ht ?_; clear ht))
    all_goals first
      | (intro r h1 h2; clear h1; refine h2 ⟨[0, 1], Nat, (fun k => k ≤ b.length ∧ trimRn b c b.length = trimRn b c k), fun k => [.imm (.int .u8) (b.take k), .int .u8 c], fun _ => [], fun k => k, ⟨b.length, ⟨Nat.le_refl _, rfl⟩, by simp only [List.take_length], rfl⟩, ?_⟩; clear h2)
    rintro k ⟨hk, he⟩
    have hl : (b.take k).length = k := by rw [List.length_take]; omega
    repeat' (intro t ht; first | (cases t <;> first | (cases ht; done) | ((try simp only [bn_s] at ht); (try simp only [nd_s] at ht))) | (refine ht ?_ ?_ <;> clear ht) | (refine ht.1 ?_ ?_ <;> clear ht) | (refine ht ?_; clear ht))
    all_goals first
      | ((try simp only [nd_s, bn_s, mm_s] at *); omega)
      | (have h0 : k = 0 := by omega
         refine ⟨?_, rfl⟩; unfold trimR; rw [he, h0]; rfl)
      | (obtain ⟨j, rfl⟩ : ∃ j, k = j + 1 := ⟨k - 1, by omega⟩
         have e : (((b.take (j + 1)).length : Int) - 1).toNat = j := by omega
         first
           | (have hx : ¬ (b.take (j + 1)).getD (((b.take (j + 1)).length : Int) - 1).toNat 0 = c := by assumption
              rw [e, take_getD (Nat.lt_succ_self j)] at hx
              have h1 : trimRn b c (j + 1) = j + 1 := if_neg hx
              refine ⟨?_, rfl⟩; unfold trimR; rw [he, h1])
           | (have hx : (b.take (j + 1)).getD (((b.take (j + 1)).length : Int) - 1).toNat 0 = c := by assumption
              rw [e, take_getD (Nat.lt_succ_self j)] at hx
              have h1 : trimRn b c (j + 1) = trimRn b c j := if_pos hx
              refine ⟨j, ⟨by omega, by rw [he, h1]⟩, Nat.lt_succ_self j, ?_, rfl⟩
              dsimp only; rw [e, List.take_take, Nat.min_eq_left (Nat.le_succ j)]))
      | trace_state
  · cases e
def ir_bytes_trimLeftByte : IR :=
(.seq
(.keep [0, 1]
(.reg (oD 4 (.mov (.c (.imm (.int .u8) []))) ::
[])))
(.seq
(.block 0
(.loop
(.seq
(.seq
(.keep [0, 1]
(.reg (oM 5 0 ::
oD 6 (.len (.t 5)) ::
oD 7 (.bin .gtr (.t 6) (cI 0)) ::
oM 8 7 ::
oT 8 9 (.mov (.t 0)) ::
oT 8 10 (.indexSl 1 (.t 9) (cI 0)) ::
oT 8 11 (.load none (.t 10)) ::
oT 8 12 (.mov (.t 1)) ::
oT 8 13 (.bin .eql (.t 11) (.t 12)) ::
oD 14 (.pick (.t 8) (.t 13) cF) ::
[])))
(.cond (.t 14)
.skip
(.exit 0)))
(.block 1
(.keep [0, 1]
(.reg (oM 15 0 ::
oD 16 (.slice 1 (.t 15) (some (cI 1)) none none) ::
oM 0 16 ::
[])))))))
(.seq
(.seq
(.keep [0]
(.reg (oM 17 0 ::
oD 18 (.len (.t 17)) ::
oD 19 (.bin .eql (.t 18) (cI 0)) ::
[])))
(.cond (.t 19)
(.seq
(.reg (oD 4 (.mov (.c (.imm (.int .u8) []))) ::
[]))
.ret)
.skip))
(.seq
(.reg (oM 20 0 ::
oM 4 20 ::
[]))
.ret))))
def rd_bytes_trimLeftByte : List RD := [.tmp 4 true (some (.int .u8))]
theorem ok_bytes_trimLeftByte : fnOk Tryd.prog Tryd.f123 ir_bytes_trimLeftByte rd_bytes_trimLeftByte = true := by kernel_rfl
def S_bytes_trimLeftByte : List AV → List Obj → Option (Prop × AV)
  | [.imm (.int .u8) b, .int .u8 c], [] => some ((b.length ≤ 140737488355328, .imm (.int .u8) (trimL b c)))
  | _, _ => none
theorem snd_bytes_trimLeftByte : SoundS Tryd.prog 123 (RoF S_bytes_trimLeftByte).sum := by
  refine ro_fn Tryd.func123 ok_bytes_trimLeftByte (env_nil _) fun args objs p v e => ?_
  unfold S_bytes_trimLeftByte at e
  split at e
  · rename_i b c
    cases e
    refine ⟨rfl, fun hw ho hp => ?_⟩
    change List Int at b
    repeat' (intro t ht; first | (cases t <;> first | (cases ht; done) | ((try simp only [bn_s] at ht); (try simp only [nd_s] at ht))) | (refine ht ?_ ?_ <;> clear ht) | (refine ht.1 ?_ ?_ <;> clear ht) | (refine ht ?_; clear ht))
    all_goals first
      | (intro r h1 h2; clear h1; refine h2 ⟨[0, 1], Nat, (fun k => k ≤ b.length ∧ trimL b c = trimL (b.drop k) c), fun k => [.imm (.int .u8) (b.drop k), .int .u8 c], fun _ => [], fun k => b.length - k, ⟨0, ⟨Nat.zero_le _, rfl⟩, rfl, rfl⟩, ?_⟩; clear h2)
    rintro k ⟨hk, he⟩
    have hl : (b.drop k).length = b.length - k := List.length_drop
    repeat' (intro t ht; first | (cases t <;> first | (cases ht; done) | ((try simp only [bn_s] at ht); (try simp only [nd_s] at ht))) | (refine ht ?_ ?_ <;> clear ht) | (refine ht.1 ?_ ?_ <;> clear ht) | (refine ht ?_; clear ht))
    all_goals first
      | ((try simp only [nd_s, bn_s, mm_s] at *); omega)
      | (exfalso; omega)
      | (have h0 : b.drop k = [] := List.eq_nil_of_length_eq_zero (by omega)
         refine ⟨?_, rfl⟩; rw [he, h0]; rfl)
      | (have hlt : k < b.length := by omega
         first
           | (have hx : ¬ (b.drop k).getD 0 0 = c := by assumption
              rw [getD_drop0] at hx
              have h1 : trimL (b.drop k) c = b.drop k := by
                unfold trimL; rw [drop_step hlt 0, List.dropWhile_cons_of_neg (by simpa using hx)]
              refine ⟨?_, rfl⟩; rw [he, h1])
           | (have hx : (b.drop k).getD 0 0 = c := by assumption
              rw [getD_drop0] at hx
              have h1 : trimL (b.drop k) c = trimL (b.drop (k + 1)) c := by
                unfold trimL; rw [drop_step hlt 0, List.dropWhile_cons_of_pos (by simpa using hx)]
              refine ⟨k + 1, ⟨hlt, by rw [he, h1]⟩, by dsimp only; omega, ?_, rfl⟩
              dsimp only; rw [← List.drop_drop]; rfl))
      | trace_state
  · cases e
theorem trim_zero : ∀ (b : List Int), decide ((trimL (trimR b 0) 0).length = 0) = zeroL b := by
  intro b
  have hR : ∀ k ≤ b.length, (b.take (trimRn b 0 k)).all (fun c => decide (c = 0)) = (b.take k).all fun c => decide (c = 0) := by
    intro k
    induction k with
    | zero => intro _; rfl
    | succ k ih =>
      intro hk
      unfold trimRn
      split
      · rename_i h
        rw [ih (by omega), List.take_succ_eq_append_getElem (by omega), List.all_append]
        have : b[k] = 0 := by rw [List.getD_eq_getElem?_getD, List.getElem?_eq_getElem (by omega)] at h; exact h
        simp [this]
      · rfl
  have hL : ∀ l : List Int, decide ((l.dropWhile fun x => decide (x = 0)).length = 0) = l.all fun c => decide (c = 0) := by
    intro l
    induction l with
    | nil => rfl
    | cons a l ih =>
      by_cases h : a = 0
      · rw [List.dropWhile_cons_of_pos (by simpa using h), ih]; simp [h]
      · rw [List.dropWhile_cons_of_neg (by simpa using h)]; simp [h]
  unfold trimL trimR zeroL
  rw [hL, hR _ (Nat.le_refl _), List.take_length]
def ir_bytes_Trim : IR :=
(.seq
(.keep [0, 1]
(.reg (oD 4 (.mov (.c (.imm (.int .u8) []))) ::
[])))
(.seq
(.seq
(.reg (oM 7 0 ::
oD 8 (.len (.t 7)) ::
oD 9 (.bin .eql (.t 8) (cI 0)) ::
[]))
(.cond (.t 9)
(.seq
(.reg (oD 4 (.mov (.c (.imm (.int .u8) []))) ::
[]))
.ret)
.skip))
(.seq
(.seq
(.reg (oM 10 1 ::
oD 11 (.bin .eql (.t 10) (.c (.str []))) ::
[]))
(.cond (.t 11)
(.seq
(.keep [0]
(.reg (oM 12 0 ::
oM 4 12 ::
[])))
.ret)
.skip))
(.seq
(.seq
(.keep [0, 1]
(.reg (oM 13 1 ::
oD 14 (.slen (.t 13)) ::
oD 15 (.bin .eql (.t 14) (cI 1)) ::
oM 16 15 ::
oT 16 17 (.mov (.t 1)) ::
oT 16 18 (.sindex (.t 17) (cI 0)) ::
oT 16 19 (.bin .lss (.t 18) (.c (.int .u8 128))) ::
oD 20 (.pick (.t 16) (.t 19) cF) ::
[])))
(.cond (.t 20)
(.seq
(.keep [0, 1]
(.regD ((oM 21 0, []) ::
(oM 22 1, [0]) ::
(oD 23 (.sindex (.t 22) (cI 0)), [1]) ::
(oD 24 (.call false (.f 124) [(.t 21), (.t 23)]), []) ::
(oM 25 1, [0, 0, 0, 0]) ::
(oD 26 (.sindex (.t 25) (cI 0)), [1, 0, 0, 0]) ::
(oD 27 (.call false (.f 123) [(.t 24), (.t 26)]), []) ::
(oM 4 27, []) ::
[])))
.ret)
.skip))
(.seq
(.seq
(.keep [0, 1]
(.reg (oM 29 1 ::
oD 30 (.call false (.f 125) [(.t 29)]) ::
oM 28 30 ::
oD 31 (.extract (.t 28) 0) ::
oD 32 (.extract (.t 28) 1) ::
oD 5 (.box [.kb false, .kb false, .kb false, .kb false, .kb false, .kb false, .kb false, .kb false, .kb false, .kb false, .kb false, .kb false, .kb false, .kb false, .kb false, .kb false, .kb false, .kb false, .kb false, .kb false, .kb false, .kb false, .kb false, .kb false, .kb false, .kb false, .kb false, .kb false, .kb false, .kb false, .kb false, .kb false, .kb false, .kb false, .kb false, .kb false, .kb false, .kb false, .kb false, .kb false, .kb false, .kb false, .kb false, .kb false, .kb false, .kb false, .kb false, .kb false, .kb false, .kb false, .kb false, .kb false, .kb false, .kb false, .kb false, .kb false, .kb false, .kb false, .kb false, .kb false, .kb false, .kb false, .kb false, .kb false, .kb false, .kb false, .kb false, .kb false, .kb false, .kb false, .kb false, .kb false, .kb false, .kb false, .kb false, .kb false, .kb false, .kb false, .kb false, .kb false, .kb false, .kb false, .kb false, .kb false, .kb false, .kb false, .kb false, .kb false, .kb false, .kb false, .kb false, .kb false, .kb false, .kb false, .kb false, .kb false, .kb false, .kb false, .kb false, .kb false, .kb false, .kb false, .kb false, .kb false, .kb false, .kb false, .kb false, .kb false, .kb false, .kb false, .kb false, .kb false, .kb false, .kb false, .kb false, .kb false, .kb false, .kb false, .kb false, .kb false, .kb false, .kb false, .kb false, .kb false, .kb false, .kb false, .kb false, .kb false, .kb false, .kb false, .kb false, .kb false, .kb false, .kb false, .kb false, .kb false, .kb false, .kb false, .kb false, .kb false, .kb false, .kb false, .kb false, .kb false, .kb false, .kb false, .kb false, .kb false, .kb false, .kb false, .kb false, .kb false, .kb false, .kb false, .kb false, .kb false, .kb false, .kb false, .kb false, .kb false, .kb false, .kb false, .kb false, .kb false, .kb false, .kb false, .kb false, .kb false, .kb false, .kb false, .kb false, .kb false, .kb false, .kb false, .kb false, .kb false, .kb false, .kb false, .kb false, .kb false, .kb false, .kb false, .kb false, .kb false, .kb false, .kb false, .kb false, .kb false, .kb false, .kb false, .kb false, .kb false, .kb false, .kb false, .kb false, .kb false, .kb false, .kb false, .kb false, .kb false, .kb false, .kb false, .kb false, .kb false, .kb false, .kb false, .kb false, .kb false, .kb false, .kb false, .kb false, .kb false, .kb false, .kb false, .kb false, .kb false, .kb false, .kb false, .kb false, .kb false, .kb false, .kb false, .kb false, .kb false, .kb false, .kb false, .kb false, .kb false, .kb false, .kb false, .kb false, .kb false, .kb false, .kb false, .kb false, .kb false, .kb false, .kb false, .kb false, .kb false, .kb false, .kb false, .kb false, .kb false, .kb false, .kb false, .kb false, .kb false, .kb false, .kb false, .kb false, .kb false, .kb false, .kb false, .kb false, .kb false]) ::
oN (.store 256 (.t 5) (.t 31)) ::
oM 6 32 ::
[])))
(.seq
(.keep [0, 1, 5, 6]
(.reg (oM 33 6 ::
[])))
(.cond (.t 33)
(.seq
(.reg (oM 34 0 ::
oD 35 (.call false (.f 127) [(.t 34), (.t 5)]) ::
oD 36 (.call false (.f 126) [(.t 35), (.t 5)]) ::
oM 4 36 ::
[]))
.ret)
.skip)))
(.seq
(.keep [0, 1]
(.reg (oM 37 0 ::
oM 38 1 ::
oD 39 (.call false (.f 129) [(.t 37), (.t 38)]) ::
oM 40 1 ::
oD 41 (.call false (.f 128) [(.t 39), (.t 40)]) ::
oM 4 41 ::
[])))
.ret))))))
def rd_bytes_Trim : List RD := [.tmp 4 true (some (.int .u8))]
theorem ok_bytes_Trim : fnOk Tryd.prog Tryd.f116 ir_bytes_Trim rd_bytes_Trim = true := by kernel_rfl
def S_bytes_Trim : List AV → List Obj → Option (Prop × AV)
  | [.imm (.int .u8) b, .str [0]], [] => some ((b.length ≤ 140737488355328, .imm (.int .u8) (trimL (trimR b 0) 0)))
  | _, _ => none
theorem snd_bytes_Trim : SoundS Tryd.prog 116 (RoF S_bytes_Trim).sum := by
  refine ro_fn Tryd.func116 ok_bytes_Trim (env_cons (s := RoF S_bytes_trimRightByte) snd_bytes_trimRightByte (env_cons (s := RoF S_bytes_trimLeftByte) snd_bytes_trimLeftByte (env_nil _))) fun args objs p v e => ?_
  unfold S_bytes_Trim at e
  split at e
  · rename_i b
    cases e
    refine ⟨rfl, fun hw ho hp => ?_⟩
    change List Int at b
    have hl : (trimR b 0).length ≤ b.length := by unfold trimR; rw [List.length_take]; omega
    repeat' (intro t ht; first | (cases t <;> first | (cases ht; done) | ((try simp only [bn_s] at ht); (try simp only [nd_s] at ht))) | (refine ht ?_ ?_ <;> clear ht) | (refine ht.1 ?_ ?_ <;> clear ht) | (refine ht ?_; clear ht))
    all_goals first
      | exact hp
      | exact ⟨by decide, by decide⟩
      | exact Nat.le_trans hl hp
      | exact ⟨rfl, rfl⟩
      | (have hb : b = [] := List.eq_nil_of_length_eq_zero (by omega)
         refine ⟨?_, rfl⟩; rw [hb]; rfl)
      | trace_state
  · cases e
end Go.Eng
