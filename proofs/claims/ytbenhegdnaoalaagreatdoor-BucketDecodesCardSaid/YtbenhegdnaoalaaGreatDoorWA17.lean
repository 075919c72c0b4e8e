/- Parts of the proof: OG, R7, N1, M2. No condition. -/
import Derived.Test.YtbenhegdnaoalaaGreatDoorProg
import Derived.Test.YtbenhegdnaoalaaGreatDoorWA10
import Derived.KernelRfl
import Derived.Test.YtbenhegdnaoalaaGreatDoorWA16
import Derived.Test.YtbenhegdnaoalaaGreatDoorWA11
namespace Go.Eng
open Go.Proofs
set_option linter.unusedVariables false
set_option linter.unusedSimpArgs false
set_option maxRecDepth 100000
set_option maxHeartbeats 1000000
theorem cons4 {l : List Int} (h : 4 ≤ l.length) : ∃ a b c d r, l = a :: b :: c :: d :: r := by
  obtain _ | ⟨a0, _ | ⟨a1, _ | ⟨a2, _ | ⟨a3, r⟩⟩⟩⟩ := l
  all_goals first | exact ⟨_, _, _, _, _, rfl⟩ | (simp at h; done)
theorem at2 (n : Int) : bytesN n 2 = [n.fdiv 256 % 256, n % 256] := by
  have e : bytesN n 2 = [(n.fdiv (2 ^ 8)) % 256, (n.fdiv (2 ^ 0)) % 256] := rfl
  rw [e, show (2 : Int) ^ 8 = 256 from rfl, Int.pow_zero, Int.fdiv_one]
theorem at4 (n : Int) : bytesN n 4 = [n.fdiv 16777216 % 256, n.fdiv 65536 % 256, n.fdiv 256 % 256, n % 256] := by
  have e : bytesN n 4 = [(n.fdiv (2 ^ 24)) % 256, (n.fdiv (2 ^ 16)) % 256, (n.fdiv (2 ^ 8)) % 256, (n.fdiv (2 ^ 0)) % 256] := rfl
  rw [e, show (2 : Int) ^ 8 = 256 from rfl, show (2 : Int) ^ 16 = 65536 from rfl, show (2 : Int) ^ 24 = 16777216 from rfl, Int.pow_zero, Int.fdiv_one]
theorem back2 {a b : Int} (ha : 0 ≤ a ∧ a ≤ 255) (hb : 0 ≤ b ∧ b ≤ 255) : bytesN (numL [a, b]) 2 = [a, b] := by
  have e : numL [a, b] = a * 256 + b := by show (0 * 256 + a) * 256 + b = _; omega
  rw [e, at2, Int.fdiv_eq_ediv_of_nonneg _ (by decide), show (a * 256 + b) / 256 % 256 = a by omega, show (a * 256 + b) % 256 = b by omega]
theorem back4 {a b c d : Int} (ha : 0 ≤ a ∧ a ≤ 255) (hb : 0 ≤ b ∧ b ≤ 255) (hc : 0 ≤ c ∧ c ≤ 255) (hd : 0 ≤ d ∧ d ≤ 255) : bytesN (numL [a, b, c, d]) 4 = [a, b, c, d] := by
  have e : numL [a, b, c, d] = ((a * 256 + b) * 256 + c) * 256 + d := by show (((0 * 256 + a) * 256 + b) * 256 + c) * 256 + d = _; omega
  rw [e, at4, Int.fdiv_eq_ediv_of_nonneg _ (by decide), Int.fdiv_eq_ediv_of_nonneg _ (by decide), Int.fdiv_eq_ediv_of_nonneg _ (by decide),
    show (((a * 256 + b) * 256 + c) * 256 + d) / 16777216 % 256 = a by omega, show (((a * 256 + b) * 256 + c) * 256 + d) / 65536 % 256 = b by omega,
    show (((a * 256 + b) * 256 + c) * 256 + d) / 256 % 256 = c by omega, show (((a * 256 + b) * 256 + c) * 256 + d) % 256 = d by omega]
def hI (h : Bool) : Int := if h = true then 1 else 0
theorem enc_dec {b : List Int} (hb : ∀ x ∈ b, 0 ≤ x ∧ x ≤ 255) (h0 : decE b = 0) : rightO (decC b) (decF b) (decH b) (decX b) (decV b) (decM b) = true ∧ refB (decC b) (decF b) (decH b) (decX b) (decV b) (decM b) = b.take (decN b).toNat ∧ 0 ≤ decN b ∧ decN b ≤ b.length := by
  have hq := bytes_le hb 2
  have hn := bytes_le hb 3
  have hof := of_le (decC b) (decF b)
  unfold decE at h0
  by_cases h4 : b.length < 4
  · rw [if_pos h4] at h0; exact absurd h0 (by decide)
  rw [if_neg h4] at h0
  by_cases hok : ofOk (decC b) (decF b) = false
  · rw [if_pos hok] at h0; exact absurd h0 (by decide)
  rw [if_neg hok] at h0
  by_cases hmk : decH b = true ∧ ofMask (decC b) (decF b) = false
  · rw [if_pos hmk] at h0; exact absurd h0 (by decide)
  rw [if_neg hmk] at h0
  by_cases hkl : decK b = false ∨ (b.length : Int) - 4 < b.getD 3 0
  · rw [if_pos hkl] at h0; exact absurd h0 (by decide)
  rw [if_neg hkl] at h0
  have hK : decK b = true := by cases hk : decK b with | true => rfl | false => exact absurd (.inl hk) hkl
  have hlen : 4 + b.getD 3 0 ≤ (b.length : Int) := by
    have : ¬ (b.length : Int) - 4 < b.getD 3 0 := fun h => hkl (.inr h)
    omega
  have hok' : ofOk (decC b) (decF b) = true := by simpa using hok
  obtain ⟨d1, d2, d3⟩ := dec_len hn.1 hof.1 hK
  have hcc : decC b = 65535 ∨ decC b = 32768 := by
    unfold ofOk at hok'
    split at hok'
    · left; assumption
    · right; simp only [Bool.and_eq_true, decide_eq_true_eq] at hok'; exact hok'.2
  have hA0 : 0 ≤ decA b := by unfold decA; split <;> decide
  have hVl : ((decV b).length : Int) = decS b := drop_take_len hA0 d1 (by unfold decN at d2; split at d2 <;> omega)
  have hMl : ((decM b).length : Int) = if decH b = true then decS b else 0 := by
    unfold decM
    by_cases hh : decH b = true
    · rw [if_pos hh, if_pos hh]
      exact drop_take_len (by omega) d1 (by unfold decN at d2; rw [if_pos hh] at d2; omega)
    · rw [if_neg hh, if_neg hh]; rfl
  have hX : 0 ≤ decX b ∧ decX b < 4294967296 := by
    unfold decX
    split
    · have := numL_le ((b.drop 4).take 4) fun y hy => hb y (List.mem_of_mem_drop (List.mem_of_mem_take hy))
      have h2 : ∀ k ≤ 4, (256 : Int) ^ k ≤ 4294967296 := by decide
      have := h2 ((b.drop 4).take 4).length (by rw [List.length_take]; omega)
      omega
    · decide
  have hR : rightO (decC b) (decF b) (decH b) (decX b) (decV b) (decM b) = true := by
    unfold rightO
    rw [hok', (zu _ hX.1).2 hX.2, h0, decide_eq_true (show ((decV b).length : Int) ≤ ofSize (decC b) (decF b) by omega)]
    have hx0 : (ofExtra (decC b) || decide (decX b = 0)) = true := by
      rcases hcc with hc | hc
      · rw [show ofExtra (decC b) = true from decide_eq_true hc]; rfl
      · rw [show decX b = 0 from if_neg (by omega)]; simp
    rw [hx0]
    cases hh : decH b with
    | true =>
      have hm1 : ofMask (decC b) (decF b) = true := by
        cases hq : ofMask (decC b) (decF b) with
        | true => rfl
        | false => exact absurd ⟨hh, hq⟩ hmk
      rw [hh, if_pos rfl] at hMl
      rw [hm1, decide_eq_true (show ((decM b).length : Int) = (decV b).length by omega)]; rfl
    | false =>
      rw [hh] at hMl
      simp only [Bool.false_eq_true, if_false] at hMl
      rw [decide_eq_true (show (decM b).length = 0 by omega)]; rfl
  refine ⟨hR, ?_, by omega, by omega⟩
  obtain ⟨a0, a1, a2, a3, r, hbd⟩ := cons4 (l := b) (by omega)
  have q0 := hb a0 (by rw [hbd]; simp)
  have q1 := hb a1 (by rw [hbd]; simp)
  have q2 := hb a2 (by rw [hbd]; simp)
  have q3 := hb a3 (by rw [hbd]; simp)
  obtain ⟨n1, n2, n3, n4, n5, n6, n7, n8⟩ := right_nums hR
  have g2 : b.getD 2 0 = a2 := by rw [hbd]; rfl
  have g3 : b.getD 3 0 = a3 := by rw [hbd]; rfl
  have c2 : bytesN (decC b) 2 = [a0, a1] := by unfold decC; rw [hbd]; exact back2 q0 q1
  have hf : 2 * decF b + (if decH b = true then 1 else 0) = a2 := by
    unfold decF decH; rw [g2, tdiv_nn q2.1, tmod_nn q2.1]
    by_cases h1 : a2 % 2 = 1
    · rw [decide_eq_true h1, if_pos rfl]; omega
    · rw [decide_eq_false h1]; simp only [Bool.false_eq_true, if_false]; omega
  have hrl : restO (decC b) (decV b) (decM b) = a3 := by
    unfold restO
    rw [hVl, hMl, ← g3]
    unfold decN decA at d2
    by_cases hh : decH b = true
    · rw [if_pos hh] at d2 ⊢
      by_cases hc : decC b = 65535
      · rw [if_pos hc] at d2 ⊢; omega
      · rw [if_neg hc] at d2 ⊢; omega
    · rw [if_neg hh] at d2 ⊢
      by_cases hc : decC b = 65535
      · rw [if_pos hc] at d2 ⊢; omega
      · rw [if_neg hc] at d2 ⊢; omega
  have hbody : bodyR (decC b) (decX b) (decV b) (decM b) = r.take a3.toNat := by
    have hdr : b.drop 4 = r := by rw [hbd]; rfl
    have hXb : (if decC b = 65535 then bytesN (decX b) 4 else []) = (b.take (decA b).toNat).drop 4 := by
      by_cases hc : decC b = 65535
      · have hA8 : decA b = 8 := if_pos hc
        have hl8 : 8 ≤ b.length := by unfold decN at d2; rw [hA8] at d2; split at d2 <;> omega
        rw [if_pos hc, hA8]
        have hXe : decX b = numL ((b.drop 4).take 4) := if_pos hc
        rw [hXe, hdr]
        have hrl8 : 4 ≤ r.length := by rw [hbd] at hl8; simp only [List.length_cons] at hl8; omega
        obtain ⟨x0, x1, x2, x3, s, hrd⟩ := cons4 hrl8
        have hmr : ∀ y ∈ r, 0 ≤ y ∧ y ≤ 255 := fun y hy => hb y (by rw [hbd]; simp [hy])
        have y0 := hmr x0 (by rw [hrd]; simp)
        have y1 := hmr x1 (by rw [hrd]; simp)
        have y2 := hmr x2 (by rw [hrd]; simp)
        have y3 := hmr x3 (by rw [hrd]; simp)
        rw [hrd, show (x0 :: x1 :: x2 :: x3 :: s).take 4 = [x0, x1, x2, x3] from rfl, back4 y0 y1 y2 y3, hbd, hrd]; rfl
      · have hA4 : decA b = 4 := if_neg hc
        rw [if_neg hc, hA4, hbd]; rfl
    unfold bodyR
    rw [hXb]
    have hAn : 4 ≤ (decA b).toNat := by unfold decA; split <;> decide
    have j1 : ∀ (i j k : Nat), i ≤ j → j ≤ k → (b.take j).drop i ++ (b.take k).drop j = (b.take k).drop i := fun i j k h1 h2 => by
      rw [show (b.take k).drop i = ((b.take k).drop i).take (j - i) ++ ((b.take k).drop i).drop (j - i) from (List.take_append_drop ..).symm, List.drop_drop, show i + (j - i) = j by omega, List.take_drop, show i + (j - i) = j by omega, List.take_take, Nat.min_eq_left h2]
    have hfin : ∀ k : Nat, (k : Int) = decN b → (b.take k).drop 4 = r.take a3.toNat := fun k hk => by
      rw [hbd, show k = a3.toNat + 4 by omega]; rfl
    unfold decV decM
    by_cases hh : decH b = true
    · rw [if_pos hh, j1 _ _ _ hAn (by omega), j1 _ _ _ (by omega) (by omega)]
      refine hfin _ ?_
      unfold decN; rw [if_pos hh]; omega
    · rw [if_neg hh, List.append_nil, j1 _ _ _ hAn (by omega)]
      refine hfin _ ?_
      unfold decN; rw [if_neg hh]; omega
  unfold refB
  rw [c2, hf, ← n8, hrl, hbody, d2, g3]
  rw [hbd, show (4 + a3).toNat = a3.toNat + 4 by omega]; rfl
end Go.Eng
namespace Go.Eng
open Go.Proofs
set_option linter.unusedVariables false
set_option linter.unusedSimpArgs false
set_option maxRecDepth 100000
set_option maxHeartbeats 1000000
def ir_r01_Right : IR :=
(.seq
(.keep [0]
(.reg (oD 2 (.mov cF) ::
[])))
(.seq
(.seq
(.reg (oD 3 (.mov (cI 0)) ::
[]))
(.block 0
(.loop
(.seq
(.seq
(.keep [0, 3]
(.reg (oM 4 3 ::
oM 5 0 ::
oD 6 (.len (.t 5)) ::
oD 7 (.bin .lss (.t 4) (.t 6)) ::
[])))
(.cond (.t 7)
.skip
(.exit 0)))
(.seq
(.block 1
(.seq
(.keep [0, 3]
(.reg (oM 10 0 ::
oM 11 3 ::
oD 12 (.indexSl 1 (.t 10) (.t 11)) ::
oL 13 12 ::
oD 14 (.bin .eql (.t 13) (cI 0)) ::
oM 15 14 ::
oF 15 16 (.mov (.t 0)) ::
oF 15 17 (.mov (.t 3)) ::
oF 15 18 (.indexSl 1 (.t 16) (.t 17)) ::
oF 15 19 (.load none (.t 18)) ::
oF 15 20 (.bin .gtr (.t 19) (cI 8)) ::
oD 21 (.pick (.t 15) cT (.t 20)) ::
oM 22 21 ::
oF 22 23 (.mov (.t 0)) ::
oF 22 24 (.mov (.t 3)) ::
oF 22 25 (.indexSl 1 (.t 23) (.t 24)) ::
oF 22 26 (.load none (.t 25)) ::
oF 22 27 (.bin .lss (.t 26) (cI (-64))) ::
oD 28 (.pick (.t 22) cT (.t 27)) ::
[])))
(.cond (.t 28)
(.seq
(.keep []
(.reg (oD 2 (.mov cF) ::
[])))
.ret)
.skip)))
(.keep [0, 3]
(.reg (oM 8 3 ::
oD 9 (.bin .add (.t 8) (cI 1)) ::
oM 3 9 ::
[]))))))))
(.seq
(.keep [0]
(.reg (oM 29 0 ::
oD 30 (.len (.t 29)) ::
oD 31 (.bin .leq (.t 30) (cI 64)) ::
oM 2 31 ::
[])))
.ret)))
def rd_r01_Right : List RD := [.tmp 2 true none]
theorem ok_r01_Right : fnOk Tryz.prog Tryz.f126 ir_r01_Right rd_r01_Right = true := by kernel_rfl
def S_r01_Right : List AV → List Obj → Option (Prop × AV)
  | [.imm (.int .i64) w], [] => some ((True, .bool (rightF w)))
  | _, _ => none
theorem snd_r01_Right : SoundS Tryz.prog 126 (RoF S_r01_Right).sum := by
  refine ro_fn Tryz.func126 ok_r01_Right (env_nil _) fun args objs p v e => ?_
  unfold S_r01_Right at e
  split at e
  · rename_i w
    cases e
    refine ⟨rfl, fun hw ho hp => ?_⟩
    change List Int at w
    have hl : w.length ≤ maxLen := (hw (.imm (.int .i64) w) (by simp)).2
    unfold maxLen at hl
    repeat' (intro t ht; first | (cases t <;> first | (cases ht; done) | ((try simp only [bn_s] at ht); (try simp only [nd_s] at ht))) | (refine ht ?_ ?_ <;> clear ht) | (refine ht.1 ?_ ?_ <;> clear ht) | (refine ht ?_; clear ht))
    all_goals (intro r h1 h2; clear h1; refine h2 ⟨[0, 3], Nat, (fun i => i ≤ w.length ∧ w.all okW = (w.drop i).all okW), fun i => [.imm (.int .i64) w, .int .i64 i], fun _ => [], fun i => w.length - i, ⟨0, ⟨Nat.zero_le _, rfl⟩, rfl, rfl⟩, ?_⟩; clear h2)
    rintro i ⟨hi, he⟩
    repeat' (intro t ht; first | (cases t <;> first | (cases ht; done) | ((try simp only [bn_s] at ht); (try simp only [nd_s] at ht))) | (refine ht ?_ ?_ <;> clear ht) | (refine ht.1 ?_ ?_ <;> clear ht) | (refine ht ?_; clear ht))
    all_goals first
      | ((try simp only [nd_s, bn_s, mm_s] at *); omega)
      | (have hge : w.length ≤ i := by omega
         rw [List.drop_of_length_le hge] at he
         refine ⟨?_, rfl⟩; unfold rightF; rw [he, List.all_nil, Bool.and_true]
         congr 2; exact propext (by omega))
      | (have hlt : i < w.length := by omega
         rw [drop_step hlt 0, List.all_cons] at he
         first
           | (have hk : okW (w.getD i 0) = false := okW_f.2 (by omega)
              refine ⟨?_, rfl⟩; unfold rightF; rw [he, hk]; simp; done)
           | (have hk : okW (w.getD i 0) = true := okW_t.2 (by omega)
              rw [hk, Bool.true_and] at he
              exact ⟨i + 1, ⟨hlt, he⟩, by (try simp only [nd_s, bn_s, mm_s] at *); omega, rfl, rfl⟩))
      | trace_state
  · cases e
def ir_r01_Size : IR :=
(.seq
(.keep [0]
(.reg (oD 2 (.mov (cI 0)) ::
[])))
(.seq
(.reg (oD 3 (.mov (cI 0)) ::
[]))
(.seq
(.seq
(.reg (oD 4 (.mov (cI 0)) ::
[]))
(.block 0
(.loop
(.seq
(.seq
(.keep [0, 3, 4]
(.reg (oM 5 4 ::
oM 6 0 ::
oD 7 (.len (.t 6)) ::
oD 8 (.bin .lss (.t 5) (.t 7)) ::
oM 9 8 ::
oT 9 10 (.mov (.t 0)) ::
oT 9 11 (.call false (.f 126) [(.t 10)]) ::
oD 12 (.pick (.t 9) (.t 11) cF) ::
[])))
(.cond (.t 12)
.skip
(.exit 0)))
(.seq
(.block 1
(.seq
(.keep [0, 3, 4]
(.reg (oM 15 0 ::
oM 16 4 ::
oD 17 (.indexSl 1 (.t 15) (.t 16)) ::
oL 18 17 ::
oD 19 (.bin .gtr (.t 18) (cI 0)) ::
[])))
(.cond (.t 19)
(.keep [0, 3, 4]
(.reg (oM 20 3 ::
oM 21 0 ::
oM 22 4 ::
oD 23 (.indexSl 1 (.t 21) (.t 22)) ::
oL 24 23 ::
oD 25 (.bin .add (.t 20) (.t 24)) ::
oM 3 25 ::
[])))
(.keep [0, 3, 4]
(.reg (oM 26 3 ::
oM 27 0 ::
oM 28 4 ::
oD 29 (.indexSl 1 (.t 27) (.t 28)) ::
oL 30 29 ::
oD 31 (.bin .sub (.t 26) (.t 30)) ::
oM 3 31 ::
[]))))))
(.keep [0, 3, 4]
(.reg (oM 13 4 ::
oD 14 (.bin .add (.t 13) (cI 1)) ::
oM 4 14 ::
[]))))))))
(.seq
(.keep [3]
(.reg (oM 32 3 ::
oM 2 32 ::
[])))
.ret))))
def rd_r01_Size : List RD := [.tmp 2 true none]
theorem ok_r01_Size : fnOk Tryz.prog Tryz.f65 ir_r01_Size rd_r01_Size = true := by kernel_rfl
def S_r01_Size : List AV → List Obj → Option (Prop × AV)
  | [.imm (.int .i64) w], [] => some ((True, .int .i64 (sizeW w)))
  | _, _ => none
theorem snd_r01_Size : SoundS Tryz.prog 65 (RoF S_r01_Size).sum := by
  refine ro_fn Tryz.func65 ok_r01_Size (env_cons (s := RoF S_r01_Right) snd_r01_Right (env_nil _)) fun args objs p v e => ?_
  unfold S_r01_Size at e
  split at e
  · rename_i w
    cases e
    refine ⟨rfl, fun hw ho hp => ?_⟩
    change List Int at w
    repeat' (intro t ht; first | (cases t <;> first | (cases ht; done) | ((try simp only [bn_s] at ht); (try simp only [nd_s] at ht))) | (refine ht ?_ ?_ <;> clear ht) | (refine ht.1 ?_ ?_ <;> clear ht) | (refine ht ?_; clear ht))
    all_goals first
      | (intro r h1 h2; clear h1; refine h2 ⟨[0, 3, 4], Nat, (fun i => i ≤ w.length ∧ (rightF w = false → i = 0)), fun i => [.imm (.int .i64) w, .int .i64 (sumT absI w i), .int .i64 i], fun _ => [], fun i => w.length - i, ⟨0, ⟨Nat.zero_le _, fun _ => rfl⟩, rfl, rfl⟩, ?_⟩; clear h2)
    rintro i ⟨hi, hz⟩
    repeat' (intro t ht; first | (cases t <;> first | (cases ht; done) | ((try simp only [bn_s] at ht); (try simp only [nd_s] at ht))) | (refine ht ?_ ?_ <;> clear ht) | (refine ht.1 ?_ ?_ <;> clear ht) | (refine ht ?_; clear ht))
    all_goals first
      | exact True.intro
      | ((try simp only [nd_s, bn_s, mm_s] at *); omega)
      | (have hge : w.length ≤ i := by omega
         refine ⟨?_, rfl⟩; unfold sizeW; rw [sumT_end absI hge]
         cases hr : rightF w with
         | true => rfl
         | false => have h0 := hz hr; have : w = [] := List.length_eq_zero_iff.1 (by omega); subst this; rfl)
      | (have hr : rightF w = false := by assumption
         have h0 := hz hr; subst h0
         refine ⟨?_, rfl⟩; unfold sizeW; rw [hr]; rfl)
      | (have hr : rightF w = true := by assumption
         have hl := (rightF_t.1 hr).1
         have hlt : i < w.length := by omega
         have hs := sumT_abs hr i
         have hk := (rightF_t.1 hr).2 _ (getD_mem' hlt 0)
         have ha := absI_le (n := w.getD i 0)
         first
           | ((try simp only [nd_s, bn_s, mm_s] at *); omega)
           | (refine ⟨i + 1, ⟨hlt, fun h => by rw [hr] at h; cases h⟩, by (try simp only [nd_s, bn_s, mm_s] at *); omega, ?_, rfl⟩
              dsimp only
              rw [sumT_step absI hlt]
              first
                | (rw [absI_nn (by omega)]; done)
                | (rw [absI_nn (by omega)]; rfl)
                | (rw [absI_neg (by omega)]; rfl)
                | (rw [absI_neg (by omega), ← Int.sub_eq_add_neg])))
      | trace_state
  · cases e
def ir_r01_Count : IR :=
(.seq
(.keep [0]
(.reg (oD 2 (.mov (cI 0)) ::
[])))
(.seq
(.reg (oD 3 (.mov (cI 0)) ::
[]))
(.seq
(.seq
(.reg (oD 4 (.mov (cI 0)) ::
[]))
(.block 0
(.loop
(.seq
(.seq
(.keep [0, 3, 4]
(.reg (oM 5 4 ::
oM 6 0 ::
oD 7 (.len (.t 6)) ::
oD 8 (.bin .lss (.t 5) (.t 7)) ::
oM 9 8 ::
oT 9 10 (.mov (.t 0)) ::
oT 9 11 (.call false (.f 126) [(.t 10)]) ::
oD 12 (.pick (.t 9) (.t 11) cF) ::
[])))
(.cond (.t 12)
.skip
(.exit 0)))
(.seq
(.block 1
(.seq
(.keep [0, 3, 4]
(.reg (oM 15 0 ::
oM 16 4 ::
oD 17 (.indexSl 1 (.t 15) (.t 16)) ::
oL 18 17 ::
oD 19 (.bin .gtr (.t 18) (cI 0)) ::
[])))
(.cond (.t 19)
(.reg (oM 20 3 ::
oD 21 (.bin .add (.t 20) (cI 1)) ::
oM 3 21 ::
[]))
.skip)))
(.keep [0, 3, 4]
(.reg (oM 13 4 ::
oD 14 (.bin .add (.t 13) (cI 1)) ::
oM 4 14 ::
[]))))))))
(.seq
(.keep [3]
(.reg (oM 22 3 ::
oM 2 22 ::
[])))
.ret))))
def rd_r01_Count : List RD := [.tmp 2 true none]
theorem ok_r01_Count : fnOk Tryz.prog Tryz.f127 ir_r01_Count rd_r01_Count = true := by kernel_rfl
def S_r01_Count : List AV → List Obj → Option (Prop × AV)
  | [.imm (.int .i64) w], [] => some ((True, .int .i64 (countW w)))
  | _, _ => none
theorem snd_r01_Count : SoundS Tryz.prog 127 (RoF S_r01_Count).sum := by
  refine ro_fn Tryz.func127 ok_r01_Count (env_cons (s := RoF S_r01_Right) snd_r01_Right (env_nil _)) fun args objs p v e => ?_
  unfold S_r01_Count at e
  split at e
  · rename_i w
    cases e
    refine ⟨rfl, fun hw ho hp => ?_⟩
    change List Int at w
    repeat' (intro t ht; first | (cases t <;> first | (cases ht; done) | ((try simp only [bn_s] at ht); (try simp only [nd_s] at ht))) | (refine ht ?_ ?_ <;> clear ht) | (refine ht.1 ?_ ?_ <;> clear ht) | (refine ht ?_; clear ht))
    all_goals first
      | (intro r h1 h2; clear h1; refine h2 ⟨[0, 3, 4], Nat, (fun i => i ≤ w.length ∧ (rightF w = false → i = 0)), fun i => [.imm (.int .i64) w, .int .i64 (sumT oneI w i), .int .i64 i], fun _ => [], fun i => w.length - i, ⟨0, ⟨Nat.zero_le _, fun _ => rfl⟩, rfl, rfl⟩, ?_⟩; clear h2)
    rintro i ⟨hi, hz⟩
    repeat' (intro t ht; first | (cases t <;> first | (cases ht; done) | ((try simp only [bn_s] at ht); (try simp only [nd_s] at ht))) | (refine ht ?_ ?_ <;> clear ht) | (refine ht.1 ?_ ?_ <;> clear ht) | (refine ht ?_; clear ht))
    all_goals first
      | exact True.intro
      | ((try simp only [nd_s, bn_s, mm_s] at *); omega)
      | (have hge : w.length ≤ i := by omega
         refine ⟨?_, rfl⟩; unfold countW; rw [sumT_end oneI hge]
         cases hr : rightF w with
         | true => rfl
         | false => have h0 := hz hr; have : w = [] := List.length_eq_zero_iff.1 (by omega); subst this; rfl)
      | (have hr : rightF w = false := by assumption
         have h0 := hz hr; subst h0
         refine ⟨?_, rfl⟩; unfold countW; rw [hr]; rfl)
      | (have hr : rightF w = true := by assumption
         have hl := (rightF_t.1 hr).1
         have hlt : i < w.length := by omega
         have hs := sumT_one hr i
         first
           | ((try simp only [nd_s, bn_s, mm_s] at *); omega)
           | (refine ⟨i + 1, ⟨hlt, fun h => by rw [hr] at h; cases h⟩, by (try simp only [nd_s, bn_s, mm_s] at *); omega, ?_, rfl⟩
              dsimp only
              rw [sumT_step oneI hlt]
              first
                | (have e : oneI (w.getD i 0) = 1 := if_pos (by assumption)
                   rw [e]; rfl)
                | (have e : oneI (w.getD i 0) = 0 := if_neg (by assumption)
                   rw [e, Int.add_zero]; rfl)))
      | trace_state
  · cases e
theorem shl_div : ∀ k : Nat, k ≤ 7 → ∀ x : Int, 0 ≤ x → (x < (2 ^ (8 * k) : Nat) ↔ x.fdiv (2 ^ (8 * k)) = 0)
  | k, _, x, hx => by
    have hp : (0 : Int) < 2 ^ (8 * k) := Int.pow_pos (by decide)
    have e : ((2 ^ (8 * k) : Nat) : Int) = 2 ^ (8 * k) := by push_cast; rfl
    rw [e, Int.fdiv_eq_ediv_of_nonneg _ (Int.le_of_lt hp)]
    constructor
    · intro h; exact Int.ediv_eq_zero_of_lt hx h
    · intro h
      have := Int.lt_ediv_add_one_mul_self x hp
      rw [h] at this; omega
def fitsN (x n : Int) : Bool := decide (n = 8) || decide (x.fdiv (2 ^ (min (8 * n).toNat 64)) = 0)
theorem fits_eq {x : Int} (hx : 0 ≤ x) : ∀ k : Nat, 1 ≤ k → k ≤ 7 → decide (x < 1 * 2 ^ min (8 * (k : Int)).toNat IntKind.u64.bits) = fitsN x k
  | k, h1, h7 => by
    have e : min (8 * (k : Int)).toNat IntKind.u64.bits = 8 * k := by
      have : IntKind.u64.bits = 64 := rfl
      rw [this]; omega
    have e' : min (8 * (k : Int)).toNat 64 = 8 * k := by omega
    unfold fitsN
    rw [e, e', decide_eq_false (show ¬ (k : Int) = 8 by omega), Bool.false_or, Int.one_mul]
    rw [decide_eq_decide]
    have := shl_div k h7 x hx
    push_cast at this
    exact this
def ir_r01_Fits : IR :=
(.seq
(.keep [0, 1]
(.reg (oD 4 (.mov cF) ::
[])))
(.seq
(.keep [0, 1]
(.reg (oM 5 1 ::
oD 6 (.bin .eql (.t 5) (cI 8)) ::
oM 7 6 ::
oF 7 8 (.mov (.t 0)) ::
oF 7 9 (.mov (.t 1)) ::
oF 7 10 (.bin .mul (cI 8) (.t 9)) ::
oF 7 11 (.bin .shl (.c (.int .u64 1)) (.t 10)) ::
oF 7 12 (.bin .lss (.t 8) (.t 11)) ::
oD 13 (.pick (.t 7) cT (.t 12)) ::
oM 4 13 ::
[])))
.ret))
def rd_r01_Fits : List RD := [.tmp 4 true none]
theorem ok_r01_Fits : fnOk Tryz.prog Tryz.f128 ir_r01_Fits rd_r01_Fits = true := by kernel_rfl
def S_r01_Fits : List AV → List Obj → Option (Prop × AV)
  | [.int .u64 x, .int .i64 n], [] => some ((1 ≤ n ∧ n ≤ 8, .bool (fitsN x n)))
  | _, _ => none
theorem snd_r01_Fits : SoundS Tryz.prog 128 (RoF S_r01_Fits).sum := by
  refine ro_fn Tryz.func128 ok_r01_Fits (env_nil _) fun args objs p v e => ?_
  unfold S_r01_Fits at e
  split at e
  · rename_i x n
    cases e
    refine ⟨rfl, fun hw ho hp => ?_⟩
    have hx : IntKind.u64.min ≤ x ∧ x ≤ IntKind.u64.max := hw (.int .u64 x) (by simp)
    have hx0 : 0 ≤ x := hx.1
    obtain ⟨h1, h8⟩ := hp
    obtain ⟨k, rfl⟩ := Int.eq_ofNat_of_zero_le (show 0 ≤ n by omega)
    repeat' (intro t ht; first | (cases t <;> first | (cases ht; done) | ((try simp only [bn_s] at ht); (try simp only [nd_s] at ht))) | (refine ht ?_ ?_ <;> clear ht) | (refine ht.1 ?_ ?_ <;> clear ht) | (refine ht ?_; clear ht))
    all_goals first
      | exact True.intro
      | ((try simp only [nd_s, bn_s, mm_s] at *); omega)
      | (refine ⟨?_, rfl⟩; unfold fitsN; rw [decide_eq_true (by assumption)]; rfl)
      | (have hk : k = 1 ∨ k = 2 ∨ k = 3 ∨ k = 4 ∨ k = 5 ∨ k = 6 ∨ k = 7 := by omega
         rcases hk with rfl | rfl | rfl | rfl | rfl | rfl | rfl <;> decide)
      | (refine ⟨?_, rfl⟩; rw [← fits_eq hx0 k (by omega) (by omega)])
      | trace_state
  · cases e
theorem fitsN_put {x n : Int} : fitsN x n = false → n ≤ 8 → (n < 8 ∧ x.fdiv (2 ^ (min (8 * n).toNat 64)) ≠ 0) := fun h h8 => by
  unfold fitsN at h
  simp only [Bool.or_eq_false_iff, decide_eq_false_iff_not] at h
  exact ⟨by omega, h.2⟩
theorem fitsN_ok {x n : Int} : fitsN x n = true → ¬ (n < 8 ∧ x.fdiv (2 ^ (min (8 * n).toNat 64)) ≠ 0) := fun h k => by
  unfold fitsN at h
  simp only [Bool.or_eq_true, decide_eq_true_eq] at h
  rcases h with h | h
  · omega
  · exact k.2 h
theorem bytesN_zero (w : Int) : List.replicate w.toNat 0 = bytesN 0 w := by
  have : ∀ j : Nat, byteAt 0 w j = 0 := fun j => by unfold byteAt; rw [Int.zero_fdiv]; rfl
  unfold bytesN bytesT
  simp only [this, List.map_const', List.length_range]
def ir_r01_Put : IR :=
(.seq
(.keep [0, 1]
(.reg (oD 4 (.nilrow (.int .u8)) ::
oD 5 (.mov cF) ::
[])))
(.seq
(.seq
(.keep [0, 1]
(.reg (oM 9 0 ::
oD 10 (.call false (.f 126) [(.t 9)]) ::
oD 11 (.un .not (.t 10)) ::
oM 12 11 ::
oF 12 13 (.mov (.t 0)) ::
oF 12 14 (.call false (.f 127) [(.t 13)]) ::
oF 12 15 (.mov (.t 1)) ::
oF 12 16 (.len (.t 15)) ::
oF 12 17 (.bin .neq (.t 14) (.t 16)) ::
oD 18 (.pick (.t 12) cT (.t 17)) ::
[])))
(.cond (.t 18)
(.seq
(.keep []
(.reg (oD 4 (.nilrow (.int .u8)) ::
oD 5 (.mov cF) ::
[])))
.ret)
.skip))
(.seq
(.keep [0, 1]
(.reg (oD 6 (.nilrow (.int .u8)) ::
[])))
(.seq
(.reg (oD 7 (.mov (cI 0)) ::
[]))
(.seq
(.seq
(.reg (oD 8 (.mov (cI 0)) ::
[]))
(.block 0
(.loop
(.seq
(.seq
(.keep [0, 1, 6, 7, 8]
(.reg (oM 19 8 ::
oM 20 0 ::
oD 21 (.len (.t 20)) ::
oD 22 (.bin .lss (.t 19) (.t 21)) ::
[])))
(.cond (.t 22)
.skip
(.exit 0)))
(.seq
(.block 1
(.seq
(.seq
(.keep [0, 1, 6, 7, 8]
(.reg (oM 25 0 ::
oM 26 8 ::
oD 27 (.indexSl 1 (.t 25) (.t 26)) ::
oL 28 27 ::
oD 29 (.bin .lss (.t 28) (cI 0)) ::
[])))
(.cond (.t 29)
(.seq
(.keep [0, 1, 6, 7, 8]
(.reg (oM 30 6 ::
oM 31 0 ::
oM 32 8 ::
oD 33 (.indexSl 1 (.t 31) (.t 32)) ::
oL 34 33 ::
oD 35 (.un .neg (.t 34)) ::
oD 36 (.appendz (.int .u8) 1 (0 : Int) (.t 30) (.t 35)) ::
oM 6 36 ::
[])))
(.exit 1))
.skip))
(.seq
(.seq
(.keep [0, 1, 6, 7, 8]
(.regD ((oM 37 1, []) ::
(oM 38 7, [0]) ::
(oD 39 (.indexSl 1 (.t 37) (.t 38)), []) ::
(oL 40 39, []) ::
(oM 41 0, [0, 0, 0, 0]) ::
(oM 42 8, [0, 0, 0, 0, 0]) ::
(oD 43 (.indexSl 1 (.t 41) (.t 42)), [2, 0, 0, 0]) ::
(oL 44 43, [3, 0, 0, 0]) ::
(oD 45 (.call false (.f 128) [(.t 40), (.t 44)]), []) ::
(oD 46 (.un .not (.t 45)), []) ::
[])))
(.cond (.t 46)
(.seq
(.keep []
(.reg (oD 4 (.nilrow (.int .u8)) ::
oD 5 (.mov cF) ::
[])))
.ret)
.skip))
(.seq
(.keep [0, 1, 6, 7, 8]
(.regD ((oM 47 6, []) ::
(oM 48 1, [0]) ::
(oM 49 7, [0, 0]) ::
(oD 50 (.indexSl 1 (.t 48) (.t 49)), [2]) ::
(oL 51 50, [3]) ::
(oM 52 0, [0, 0, 0, 0, 0]) ::
(oM 53 8, [0, 0, 0, 0, 0, 0]) ::
(oD 54 (.indexSl 1 (.t 52) (.t 53)), [2, 0, 0, 0, 0]) ::
(oL 55 54, [3, 0, 0, 0, 0]) ::
(oD 56 (.call false (.f 98) [(.t 51), (.t 55)]), [8]) ::
(oD 57 (.append (.int .u8) 1 (.t 47) (.t 56)), []) ::
(oM 6 57, []) ::
[])))
(.keep [0, 1, 6, 7, 8]
(.reg (oM 58 7 ::
oD 59 (.bin .add (.t 58) (cI 1)) ::
oM 7 59 ::
[])))))))
(.keep [0, 1, 6, 7, 8]
(.reg (oM 23 8 ::
oD 24 (.bin .add (.t 23) (cI 1)) ::
oM 8 24 ::
[]))))))))
(.seq
(.keep [6]
(.reg (oM 60 6 ::
oM 4 60 ::
oD 5 (.mov cT) ::
[])))
.ret))))))
def rd_r01_Put : List RD := [.tmp 4 true (some (.int .u8)), .tmp 5 true none]
theorem ok_r01_Put : fnOk Tryz.prog Tryz.f59 ir_r01_Put rd_r01_Put = true := by kernel_rfl
def S_r01_Put : List AV → List Obj → Option (Prop × AV)
  | [.imm (.int .i64) w, .imm (.int .u64) xs], [] => some ((True, .tup [.imm (.int .u8) (putB w xs), .bool (putK w xs)]))
  | _, _ => none
theorem snd_r01_Put : SoundS Tryz.prog 59 (RoF S_r01_Put).sum := by
  refine ro_fn Tryz.func59 ok_r01_Put (env_cons (s := RoF S_r01_Right) snd_r01_Right (env_cons (s := RoF S_r01_Count) snd_r01_Count (env_cons (s := RoF S_r01_Fits) snd_r01_Fits (env_cons (s := RwF S_r01_Num) snd_r01_Num (env_nil _))))) fun args objs p v e => ?_
  unfold S_r01_Put at e
  split at e
  · rename_i w xs
    cases e
    refine ⟨rfl, fun hw ho hp => ?_⟩
    change List Int at w
    change List Int at xs
    have hx : xs.length ≤ maxLen := (hw (.imm (.int .u64) xs) (by simp)).2
    unfold maxLen at hx
    repeat' (intro t ht; first | (cases t <;> first | (cases ht; done) | ((try simp only [bn_s] at ht); (try simp only [nd_s] at ht))) | (refine ht ?_ ?_ <;> clear ht) | (refine ht.1 ?_ ?_ <;> clear ht) | (refine ht ?_; clear ht))
    all_goals first
      | exact True.intro
      | (intro r h1 h2; clear h1; refine h2 ⟨[0, 1, 6, 7, 8], Nat × Nat × List Int, (fun a => a.1 ≤ w.length ∧ (a.2.2.length : Int) = sumT absI w a.1 ∧ sumT oneI w a.1 = a.2.1 ∧ putA w xs [] = putA (w.drop a.1) (xs.drop a.2.1) a.2.2), fun a => [.imm (.int .i64) w, .imm (.int .u64) xs, .own 0, .int .i64 a.2.1, .int .i64 a.1], fun a => [.row false (.int .u8) a.2.2], fun a => w.length - a.1, ⟨(0, 0, []), ⟨Nat.zero_le _, rfl, rfl, rfl⟩, rfl, rfl⟩, ?_⟩; clear h2)
      | ((try simp only [nd_s, bn_s, mm_s] at *); omega)
      | (have hn : ¬ (rightF w = true ∧ countW w = xs.length) := fun h => by simp_all
         refine ⟨?_, rfl⟩; unfold putB putK putF; rw [if_neg hn]; rfl)
      | trace_state
    rintro ⟨i, k, b⟩ ⟨hi, hb, hk, he⟩
    dsimp only at hi hb hk he
    have hr : rightF w = true := by assumption
    have hc : countW w = xs.length := by assumption
    have hsum : (w.map oneI).sum = xs.length := by unfold countW at hc; rwa [if_pos hr] at hc
    have hl := (rightF_t.1 hr).1
    have hs := sumT_abs hr i
    have h1 := sumT_one hr i
    repeat' (intro t ht; first | (cases t <;> first | (cases ht; done) | ((try simp only [bn_s] at ht); (try simp only [nd_s] at ht))) | (refine ht ?_ ?_ <;> clear ht) | (refine ht.1 ?_ ?_ <;> clear ht) | (refine ht ?_; clear ht))
    all_goals first
      | ((try simp only [nd_s, bn_s, mm_s] at *); omega)
      | (have hge : w.length ≤ i := by omega
         rw [List.drop_of_length_le hge] at he
         have hf : putF w xs = some b := by unfold putF; rw [if_pos ⟨hr, hc⟩, he]; rfl
         refine ⟨?_, rfl⟩; unfold putB putK; rw [hf]; rfl)
      | skip
    all_goals have hlt : i < w.length := by omega
    all_goals have hkk := (rightF_t.1 hr).2 _ (getD_mem' (α := Int) hlt 0)
    all_goals first
      | ((try simp only [nd_s, bn_s, mm_s] at *); omega)
      | (have hn : w.getD i 0 < 0 := by assumption
         have ha := absI_neg hn
         have h0 : oneI (w.getD i 0) = 0 := if_neg (by omega)
         have hbl := bytesN_len (n := 0) (w := 0 - w.getD i 0) (by omega)
         first
           | ((try simp only [nd_s, bn_s, mm_s] at *); omega)
           | (refine ⟨(i + 1, k, b ++ bytesN 0 (0 - w.getD i 0)), ⟨hlt, ?_, ?_, ?_⟩, by dsimp only; omega, rfl, ?_⟩
              · rw [sumT_step absI hlt, ha]; simp only [List.length_append]; omega
              · rw [sumT_step oneI hlt, h0]; dsimp only; omega
              · rw [he]; exact putA_neg hlt hn
              · dsimp only; rw [← bytesN_zero]; rfl))
      | (have hn : ¬ w.getD i 0 < 0 := by assumption
         have hlt2 := sumT_lt (w := w) (i := i) hlt (by omega)
         have h2 : k < xs.length := by omega
         first
           | ((try simp only [nd_s, bn_s, mm_s] at *); omega)
           | (have h8 := fitsN_put (by assumption) hkk.2.1
              have hf : putF w xs = none := by unfold putF; rw [if_pos ⟨hr, hc⟩, he]; exact putA_none hlt hn h2 h8.1 h8.2
              refine ⟨?_, rfl⟩; unfold putB putK; rw [hf]; rfl)
           | (have h8 := fitsN_ok (by assumption)
              have ha := absI_nn hn
              have h0 : oneI (w.getD i 0) = 1 := if_pos (by omega)
              have hbl := bytesN_len (n := xs.getD k 0) (w := w.getD i 0) (by omega)
              first
                | (simp only [cast_rfl]; (try simp only [nd_s, bn_s, mm_s] at *); omega)
                | (refine ⟨(i + 1, k + 1, b ++ bytesN (xs.getD k 0) (w.getD i 0)), ⟨hlt, ?_, ?_, ?_⟩, by dsimp only; omega, rfl, rfl⟩
                   · rw [sumT_step absI hlt, ha]; simp only [List.length_append]; omega
                   · rw [sumT_step oneI hlt, h0]; dsimp only; omega
                   · rw [he]; exact putA_some hlt hn h2 h8)))
      | trace_state
  · cases e
theorem slice_eq {α : Type} (b : List α) (p : Nat) {n : Int} (h : 0 ≤ n) : (b.take ((p : Int) + n).toNat).drop p = (b.drop p).take n.toNat := by
  have e : ((p : Int) + n).toNat = p + n.toNat := by omega
  rw [e, List.drop_take]; congr 1; omega
theorem zeroT_step {b : List Int} {p k : Nat} (h : k < b.length) (hz : zeroL ((b.drop p).take (k - p)) = true) (hp : p ≤ k) (e : b.getD k 0 = 0) : zeroL ((b.drop p).take (k + 1 - p)) = true := by
  have hk : k - p < (b.drop p).length := by rw [List.length_drop]; omega
  rw [show k + 1 - p = (k - p) + 1 by omega, List.take_succ_eq_append_getElem hk]
  unfold zeroL at hz ⊢
  rw [List.all_append, hz, Bool.true_and, List.getElem_drop]
  have : b[p + (k - p)]'(by omega) = b.getD k 0 := by
    rw [List.getD_eq_getElem?_getD, List.getElem?_eq_getElem h, Option.getD_some]; congr 1; omega
  rw [List.all_cons, List.all_nil, this, e]; rfl
theorem zeroT_odd {b : List Int} {p k n : Nat} (h : k < b.length) (hp : p ≤ k) (hk : k < p + n) (e : ¬ b.getD k 0 = 0) : zeroL ((b.drop p).take n) = false := by
  unfold zeroL
  rw [List.all_eq_false]
  refine ⟨b.getD k 0, ?_, by simpa using e⟩
  rw [List.mem_take_iff_getElem]
  refine ⟨k - p, by rw [List.length_drop]; omega, ?_⟩
  rw [List.getElem_drop, List.getD_eq_getElem?_getD, List.getElem?_eq_getElem h, Option.getD_some]
  congr 1; omega
def ir_r01_Get : IR :=
(.seq
(.keep [0, 1]
(.reg (oD 4 (.nilrow (.int .u64)) ::
oD 5 (.mov (cI 0)) ::
[])))
(.seq
(.seq
(.reg (oM 11 0 ::
oD 12 (.call false (.f 126) [(.t 11)]) ::
oD 13 (.un .not (.t 12)) ::
[]))
(.cond (.t 13)
(.seq
(.reg (oD 4 (.nilrow (.int .u64)) ::
oD 5 (.mov (cI 2)) ::
[]))
.ret)
.skip))
(.seq
(.keep [0, 1]
(.reg (oD 6 (.nilrow (.int .u64)) ::
[])))
(.seq
(.reg (oD 7 (.mov (cI 0)) ::
[]))
(.seq
(.seq
(.reg (oD 8 (.mov (cI 0)) ::
[]))
(.block 0
(.loop
(.seq
(.seq
(.keep [0, 1, 6, 7, 8]
(.reg (oM 14 8 ::
oM 15 0 ::
oD 16 (.len (.t 15)) ::
oD 17 (.bin .lss (.t 14) (.t 16)) ::
[])))
(.cond (.t 17)
.skip
(.exit 0)))
(.seq
(.block 1
(.seq
(.keep [0, 1, 6, 7, 8]
(.reg (oM 20 0 ::
oM 21 8 ::
oD 22 (.indexSl 1 (.t 20) (.t 21)) ::
oL 23 22 ::
oM 9 23 ::
[])))
(.seq
(.seq
(.reg (oM 24 9 ::
oD 25 (.bin .lss (.t 24) (cI 0)) ::
[]))
(.cond (.t 25)
(.keep [0, 1, 6, 7, 8, 9]
(.reg (oM 26 9 ::
oD 27 (.un .neg (.t 26)) ::
oM 9 27 ::
[])))
.skip))
(.seq
(.seq
(.keep [0, 1, 6, 7, 8, 9]
(.reg (oM 28 1 ::
oD 29 (.len (.t 28)) ::
oM 30 7 ::
oD 31 (.bin .sub (.t 29) (.t 30)) ::
oM 32 9 ::
oD 33 (.bin .lss (.t 31) (.t 32)) ::
[])))
(.cond (.t 33)
(.seq
(.keep []
(.reg (oD 4 (.nilrow (.int .u64)) ::
oD 5 (.mov (cI 1)) ::
[])))
.ret)
.skip))
(.seq
(.seq
(.keep [0, 1, 6, 7, 8, 9]
(.reg (oM 34 0 ::
oM 35 8 ::
oD 36 (.indexSl 1 (.t 34) (.t 35)) ::
oL 37 36 ::
oD 38 (.bin .gtr (.t 37) (cI 0)) ::
[])))
(.cond (.t 38)
(.keep [0, 1, 6, 7, 8, 9]
(.reg (oM 39 6 ::
oM 40 1 ::
oM 41 7 ::
oM 42 7 ::
oM 43 9 ::
oD 44 (.bin .add (.t 42) (.t 43)) ::
oD 45 (.slice 1 (.t 40) (some (.t 41)) (some (.t 44)) none) ::
oD 46 (.call false (.f 68) [(.t 45)]) ::
oD 47 (.sliceAll (.int .u64) 1 [(0, 1, (.t 46))]) ::
oD 48 (.append (.int .u64) 8 (.t 39) (.t 47)) ::
oM 6 48 ::
[])))
.skip))
(.seq
(.seq
(.keep [0, 1, 6, 7, 8, 9]
(.reg (oM 49 7 ::
oM 10 49 ::
[])))
(.block 2
(.loop
(.seq
(.seq
(.keep [0, 1, 6, 7, 8, 9, 10]
(.reg (oM 50 10 ::
oM 51 7 ::
oM 52 9 ::
oD 53 (.bin .add (.t 51) (.t 52)) ::
oD 54 (.bin .lss (.t 50) (.t 53)) ::
oM 55 54 ::
oT 55 56 (.mov (.t 0)) ::
oT 55 57 (.mov (.t 8)) ::
oT 55 58 (.indexSl 1 (.t 56) (.t 57)) ::
oT 55 59 (.load none (.t 58)) ::
oT 55 60 (.bin .lss (.t 59) (cI 0)) ::
oD 61 (.pick (.t 55) (.t 60) cF) ::
[])))
(.cond (.t 61)
.skip
(.exit 2)))
(.seq
(.block 3
(.seq
(.keep [0, 1, 6, 7, 8, 9, 10]
(.reg (oM 64 1 ::
oM 65 10 ::
oD 66 (.indexSl 1 (.t 64) (.t 65)) ::
oL 67 66 ::
oD 68 (.bin .neq (.t 67) (.c (.int .u8 0))) ::
[])))
(.cond (.t 68)
(.seq
(.reg (oD 4 (.nilrow (.int .u64)) ::
oD 5 (.mov (cI 2)) ::
[]))
.ret)
.skip)))
(.keep [0, 1, 6, 7, 8, 9, 10]
(.reg (oM 62 10 ::
oD 63 (.bin .add (.t 62) (cI 1)) ::
oM 10 63 ::
[]))))))))
(.keep [0, 1, 6, 7, 8, 9]
(.reg (oM 69 7 ::
oM 70 9 ::
oD 71 (.bin .add (.t 69) (.t 70)) ::
oM 7 71 ::
[])))))))))
(.keep [0, 1, 6, 7, 8]
(.reg (oM 18 8 ::
oD 19 (.bin .add (.t 18) (cI 1)) ::
oM 8 19 ::
[]))))))))
(.seq
(.keep [6]
(.reg (oM 72 6 ::
oM 4 72 ::
oD 5 (.mov (cI 0)) ::
[])))
.ret))))))
def rd_r01_Get : List RD := [.tmp 4 true (some (.int .u64)), .tmp 5 true none]
theorem ok_r01_Get : fnOk Tryz.prog Tryz.f67 ir_r01_Get rd_r01_Get = true := by kernel_rfl
def S_r01_Get : List AV → List Obj → Option (Prop × AV)
  | [.imm (.int .i64) w, .imm (.int .u8) b], [] => some ((True, .tup [.imm (.int .u64) (getL w b), .int .i64 (getK w b)]))
  | _, _ => none
theorem snd_r01_Get : SoundS Tryz.prog 67 (RoF S_r01_Get).sum := by
  refine ro_fn Tryz.func67 ok_r01_Get (env_cons (s := RoF S_r01_Right) snd_r01_Right (env_cons (s := RoF S_r01_Value) snd_r01_Value (env_nil _))) fun args objs p v e => ?_
  unfold S_r01_Get at e
  split at e
  · rename_i w b
    cases e
    refine ⟨rfl, fun hw ho hp => ?_⟩
    change List Int at w
    change List Int at b
    have hb : b.length ≤ maxLen := (hw (.imm (.int .u8) b) (by simp)).2
    unfold maxLen at hb
    repeat' (intro t ht; first | (cases t <;> first | (cases ht; done) | ((try simp only [bn_s] at ht); (try simp only [nd_s] at ht))) | (refine ht ?_ ?_ <;> clear ht) | (refine ht.1 ?_ ?_ <;> clear ht) | (refine ht ?_; clear ht))
    all_goals first
      | exact True.intro
      | (intro r h1 h2; clear h1; refine h2 ⟨[0, 1, 6, 7, 8], Nat × Nat × List Int, (fun a => a.1 ≤ w.length ∧ a.2.1 ≤ b.length ∧ a.2.2.length ≤ a.1 ∧ getA w b [] = getA (w.drop a.1) (b.drop a.2.1) a.2.2), fun a => [.imm (.int .i64) w, .imm (.int .u8) b, .own 0, .int .i64 a.2.1, .int .i64 a.1], fun a => [.row false (.int .u64) a.2.2], fun a => w.length - a.1, ⟨(0, 0, []), ⟨Nat.zero_le _, Nat.zero_le _, Nat.zero_le _, rfl⟩, rfl, rfl⟩, ?_⟩; clear h2)
      | (have hr : rightF w = false := by assumption
         have hf : getF w b = ([], 2) := by unfold getF; rw [hr]; rfl
         refine ⟨?_, rfl⟩; unfold getL getK; rw [hf])
    rintro ⟨i, p, o⟩ ⟨hi, hp, ho, he⟩
    dsimp only at hi hp ho he
    have hr : rightF w = true := by assumption
    have hl := (rightF_t.1 hr).1
    have hdl : (b.drop p).length = b.length - p := List.length_drop
    repeat' (intro t ht; first | (cases t <;> first | (cases ht; done) | ((try simp only [bn_s] at ht); (try simp only [nd_s] at ht); (try (exfalso; first | contradiction | omega)))) | (refine ht ?_ ?_ <;> clear ht) | (refine ht.1 ?_ ?_ <;> clear ht) | (refine ht ?_; clear ht))
    all_goals first
      | ((try simp only [nd_s, bn_s, mm_s] at *); omega)
      | (have hge : w.length ≤ i := by omega
         rw [List.drop_of_length_le hge] at he
         have hf : getF w b = (o, 0) := by unfold getF; rw [if_pos hr, he]; rfl
         refine ⟨?_, rfl⟩; unfold getL getK; rw [hf]; done)
      | skip
    all_goals have hlt : i < w.length := by omega
    all_goals have hkk := (rightF_t.1 hr).2 _ (getD_mem' (α := Int) hlt 0)
    all_goals have ha := absI_le (n := w.getD i 0)
    all_goals dsimp only
    all_goals first
      | exact True.intro
      | ((try simp only [nd_s, bn_s, mm_s] at *); omega)
      | (simp only [List.length_drop, List.length_take]; (try simp only [nd_s, bn_s, mm_s] at *); omega)
      | (simp only [cast_rfl, List.length_append, List.length_cons, List.length_nil]; omega)
      | (have h1 : ((b.drop p).length : Int) < absI (w.getD i 0) := by rw [hdl]; omega
         have hf : getF w b = ([], 1) := by unfold getF; rw [if_pos hr, he]; exact getA_short hlt h1
         refine ⟨?_, rfl⟩; unfold getL getK; rw [hf]; done)
      | (have h2 : 0 < w.getD i 0 := by assumption
         (intro r h1 h2; refine h1 ⟨1, ?_⟩; clear h1 h2))
      | (have h2 : w.getD i 0 < 0 := by assumption
         (intro r h1 h2; clear h1; refine h2 ⟨[0, 1, 6, 7, 8, 9, 10], Nat, (fun k => p ≤ k ∧ (k : Int) ≤ p - w.getD i 0 ∧ zeroL ((b.drop p).take (k - p)) = true), fun k => [.imm (.int .i64) w, .imm (.int .u8) b, .own 0, .int .i64 p, .int .i64 i, .int .i64 (0 - w.getD i 0), .int .i64 k], fun _ => [.row false (.int .u64) o], fun k => b.length - k, ⟨p, ⟨Nat.le_refl _, by omega, by rw [Nat.sub_self]; rfl⟩, rfl, rfl⟩, ?_⟩; clear h2); rintro k ⟨hk1, hk2, hk3⟩)
      | trace_state
    all_goals repeat' (intro t ht; first | (cases t <;> first | (cases ht; done) | ((try simp only [bn_s] at ht); (try simp only [nd_s] at ht); (try (exfalso; first | contradiction | omega)))) | (refine ht ?_ ?_ <;> clear ht) | (refine ht.1 ?_ ?_ <;> clear ht) | (refine ht ?_; clear ht))
    all_goals (try dsimp only)
    all_goals first
      | exact True.intro
      | ((try simp only [nd_s, bn_s, mm_s] at *); omega)
      | (have h2 : 0 < w.getD i 0 := by assumption
         have h1 : ¬ ((b.drop p).length : Int) < absI (w.getD i 0) := by rw [hdl]; omega
         have hab : absI (w.getD i 0) = w.getD i 0 := absI_nn (by omega)
         have hsl := slice_eq b p (n := w.getD i 0) (by omega)
         refine ⟨(i + 1, p + (absI (w.getD i 0)).toNat, o ++ [numL ((b.drop p).take (absI (w.getD i 0)).toNat)]), ⟨hlt, ?_, ?_, ?_⟩, ?_, ?_, ?_⟩
         · dsimp only; omega
         · simp only [List.length_append, List.length_cons, List.length_nil]; omega
         · dsimp only; rw [he, getA_num hlt h1 h2, List.drop_drop]
         · dsimp only; omega
         · have : ((p + (absI (w.getD i 0)).toNat : Nat) : Int) = p + w.getD i 0 := by rw [hab]; omega
           simp only [this]; rfl
         · simp only [hab, ← hsl]; rfl)
      | (have hz : b.getD k 0 = 0 := by assumption
         exact ⟨k + 1, ⟨by omega, by omega, zeroT_step (by omega) hk3 hk1 hz⟩, by omega, rfl, rfl⟩)
      | (have hz : ¬ b.getD k 0 = 0 := by assumption
         have h2 : ¬ 0 < w.getD i 0 := by assumption
         have hab : absI (w.getD i 0) = -w.getD i 0 := absI_neg (by omega)
         have h1 : ¬ ((b.drop p).length : Int) < absI (w.getD i 0) := by rw [hdl]; omega
         have h3 : zeroL ((b.drop p).take (absI (w.getD i 0)).toNat) = false := zeroT_odd (by omega) hk1 (by omega) hz
         have hf : getF w b = ([], 2) := by unfold getF; rw [if_pos hr, he]; exact getA_odd hlt h1 h2 h3
         refine ⟨?_, rfl⟩; unfold getL getK; rw [hf]; done)
      | (have h2 : ¬ 0 < w.getD i 0 := by assumption
         have hab : absI (w.getD i 0) = -w.getD i 0 := absI_neg (by omega)
         have h1 : ¬ ((b.drop p).length : Int) < absI (w.getD i 0) := by rw [hdl]; omega
         have hke : k - p = (absI (w.getD i 0)).toNat := by omega
         rw [hke] at hk3
         refine ⟨(i + 1, p + (absI (w.getD i 0)).toNat, o), ⟨hlt, ?_, ?_, ?_⟩, ?_, ?_, rfl⟩
         · dsimp only; omega
         · dsimp only; omega
         · dsimp only; rw [he, getA_zero hlt h1 h2 hk3, List.drop_drop]
         · dsimp only; omega
         · have : ((p + (absI (w.getD i 0)).toNat : Nat) : Int) = p + (0 - w.getD i 0) := by rw [hab]; omega
           simp only [this]; rfl)
  · cases e
end Go.Eng
namespace Go.Eng
open Go.Proofs
set_option linter.unusedVariables false
set_option linter.unusedSimpArgs false
set_option maxRecDepth 100000
set_option maxHeartbeats 1000000
theorem byteAt_succ {n : Int} {k j : Nat} (h : j < k) (hk : k ≤ 7) : byteAt n ((k + 1 : Nat) : Int) j = byteAt (n / 256) k j := by
  unfold byteAt
  have e : min (8 * (((k + 1 : Nat) : Int) - 1 - j)).toNat 64 = 8 + 8 * (k - 1 - j) := by omega
  have e' : min (8 * ((k : Int) - 1 - j)).toNat 64 = 8 * (k - 1 - j) := by omega
  have hp : ∀ m : Nat, (0 : Int) ≤ 2 ^ m := fun m => Int.le_of_lt (Int.pow_pos (by decide))
  rw [e, e', Int.fdiv_eq_ediv_of_nonneg _ (hp _), Int.fdiv_eq_ediv_of_nonneg _ (hp _), Int.pow_add, ← Int.ediv_ediv_of_nonneg (hp 8)]
  rfl
theorem bytesN_succ {n : Int} {k : Nat} (hk : k ≤ 7) : bytesN n ((k + 1 : Nat) : Int) = bytesN (n / 256) k ++ [n % 256] := by
  unfold bytesN bytesT
  rw [Int.toNat_natCast, Int.toNat_natCast, List.range_succ, List.map_append]
  congr 1
  · apply List.map_congr_left
    intro j hj
    exact byteAt_succ (List.mem_range.1 hj) hk
  · show [byteAt n ((k + 1 : Nat) : Int) k] = _
    unfold byteAt
    have e : min (8 * (((k + 1 : Nat) : Int) - 1 - k)).toNat 64 = 0 := by omega
    rw [e, Int.pow_zero, Int.fdiv_one]
theorem bytesN_numL : ∀ (k : Nat) (b : List Int), k ≤ 8 → b.length = k → (∀ x ∈ b, 0 ≤ x ∧ x ≤ 255) → bytesN (numL b) k = b
  | 0, b, _, hl, _ => by
    have : b = [] := List.eq_nil_of_length_eq_zero hl
    subst this; rfl
  | k + 1, b, hk, hl, hb => by
    rcases List.eq_nil_or_concat b with rfl | ⟨l, c, rfl⟩
    · cases hl
    · rw [List.concat_eq_append] at hl hb ⊢
      have hc := hb c (by simp)
      have hl' : l.length = k := by simpa using hl
      rw [numL_snoc, bytesN_succ (by omega)]
      rw [show (numL l * 256 + c) / 256 = numL l by omega, show (numL l * 256 + c) % 256 = c by omega, bytesN_numL k l (by omega) hl' fun x hx => hb x (by simp [hx])]
theorem bytesN_0 (w : Int) : bytesN 0 w = List.replicate w.toNat 0 := (bytesN_zero w).symm
theorem zeroL_eq {b : List Int} (h : zeroL b = true) : b = List.replicate b.length 0 := by
  unfold zeroL at h
  rw [List.all_eq_true] at h
  exact List.eq_replicate_iff.2 ⟨rfl, fun x hx => by simpa using h x hx⟩
theorem putA_acc : ∀ (w xs b : List Int), putA w xs b = (putA w xs []).map (b ++ ·)
  | [], xs, b => by simp [putA]
  | n :: r, xs, b => by
    simp only [putA]
    split
    · rw [putA_acc r xs (b ++ bytesN 0 (0 - n)), putA_acc r xs ([] ++ bytesN 0 (0 - n)), Option.map_map]
      congr 1; funext z; simp
    · cases xs with
      | nil => rfl
      | cons x ys =>
        dsimp only
        split
        · rfl
        · rw [putA_acc r ys (b ++ bytesN x n), putA_acc r ys ([] ++ bytesN x n), Option.map_map]
          congr 1; funext z; simp
theorem getA_acc : ∀ (w b o : List Int), (getA w b o).2 = (getA w b []).2 ∧ ((getA w b []).2 = 0 → (getA w b o).1 = o ++ (getA w b []).1)
  | [], b, o => by simp [getA]
  | n :: r, b, o => by
    simp only [getA]
    split
    · exact ⟨rfl, fun h => by cases h⟩
    · split
      · have h1 := getA_acc r (b.drop (absI n).toNat) (o ++ [numL (b.take (absI n).toNat)])
        have h2 := getA_acc r (b.drop (absI n).toNat) ([] ++ [numL (b.take (absI n).toNat)])
        refine ⟨h1.1.trans h2.1.symm, fun h => ?_⟩
        have h0 := h2.1.symm.trans h
        rw [h1.2 h0, h2.2 h0]; simp
      · split
        · exact getA_acc r (b.drop (absI n).toNat) o
        · exact ⟨rfl, fun h => by cases h⟩
theorem lt_fit {x n : Int} (h0 : 0 ≤ x) (hn : 0 < n) (h8 : n ≤ 8) (hx : x < 256 ^ n.toNat) : ¬ (n < 8 ∧ x.fdiv (2 ^ (min (8 * n).toNat 64)) ≠ 0) := by
  rintro ⟨hlt, hz⟩
  apply hz
  have e : min (8 * n).toNat 64 = 8 * n.toNat := by omega
  have hp : (0 : Int) < 2 ^ (8 * n.toNat) := Int.pow_pos (by decide)
  have e2 : (2 : Int) ^ (8 * n.toNat) = 256 ^ n.toNat := by rw [Int.pow_mul]; rfl
  rw [e, Int.fdiv_eq_ediv_of_nonneg _ (Int.le_of_lt hp), e2]
  exact Int.ediv_eq_zero_of_lt h0 hx
def okR (w : List Int) : Prop := ∀ n ∈ w, n ≠ 0 ∧ n ≤ 8 ∧ -64 ≤ n
theorem get_put : ∀ (w b xs : List Int), okR w → (∀ x ∈ b, 0 ≤ x ∧ x ≤ 255) → getA w b [] = (xs, 0) → (w.map oneI).sum = xs.length ∧ (w.map absI).sum ≤ b.length ∧ putA w xs [] = some (b.take (w.map absI).sum.toNat)
  | [], b, xs, _, _, h => by
    simp only [getA, Prod.mk.injEq] at h
    obtain ⟨rfl, _⟩ := h
    exact ⟨rfl, Int.natCast_nonneg _, rfl⟩
  | n :: w, b, xs, hw, hb, h => by
    have hn := hw n (by simp)
    have hw' : okR w := fun m hm => hw m (by simp [hm])
    have ha := absI_le (n := n)
    have hs : 0 ≤ (w.map absI).sum := by
      have : ∀ l : List Int, 0 ≤ (l.map absI).sum := fun l => by
        induction l with
        | nil => simp
        | cons a l ih => rw [List.map_cons, List.sum_cons]; have := absI_le (n := a); omega
      exact this w
    have hd : (b.drop (absI n).toNat).length = b.length - (absI n).toNat := List.length_drop
    have hbd : ∀ x ∈ b.drop (absI n).toNat, 0 ≤ x ∧ x ≤ 255 := fun x hx => hb x (List.mem_of_mem_drop hx)
    have htk : ∀ k : Nat, (b.take (absI n).toNat) ++ (b.drop (absI n).toNat).take k = b.take ((absI n).toNat + k) := fun k => by rw [List.take_add]
    simp only [getA] at h
    rw [List.map_cons, List.sum_cons, List.map_cons, List.sum_cons]
    by_cases hsh : (b.length : Int) < absI n
    · rw [if_pos hsh] at h; cases h
    · rw [if_neg hsh] at h
      have htl : (b.take (absI n).toNat).length = (absI n).toNat := by rw [List.length_take]; omega
      by_cases hp : 0 < n
      · rw [if_pos hp] at h
        have hacc := getA_acc w (b.drop (absI n).toNat) ([] ++ [numL (b.take (absI n).toNat)])
        rw [h] at hacc
        have h0 := hacc.1.symm
        obtain ⟨ys, hys⟩ : ∃ ys, getA w (b.drop (absI n).toNat) [] = (ys, 0) := ⟨_, Prod.ext rfl h0⟩
        rw [hys] at hacc
        have hxs := hacc.2 rfl
        obtain ⟨i1, i2, i3⟩ := get_put w _ ys hw' hbd hys
        have e1 : oneI n = 1 := if_pos hp
        have ea := absI_nn (n := n) (by omega)
        dsimp only [List.nil_append] at hxs
        rw [List.singleton_append] at hxs
        subst hxs
        have hbt : ∀ x ∈ b.take (absI n).toNat, 0 ≤ x ∧ x ≤ 255 := fun x hx => hb x (List.mem_of_mem_take hx)
        have hnl := numL_le (b.take (absI n).toNat) hbt
        have h2 := hnl.2
        rw [htl] at h2
        have e3 : (absI n).toNat = n.toNat := by rw [ea]
        have h4 : numL (b.take (absI n).toNat) < 256 ^ n.toNat := by rw [← e3]; exact h2
        have hfit : ¬ (n < 8 ∧ (numL (b.take (absI n).toNat)).fdiv (2 ^ (min (8 * n).toNat 64)) ≠ 0) := lt_fit hnl.1 hp hn.2.1 h4
        have hbk := bytesN_numL (absI n).toNat (b.take (absI n).toNat) (by omega) htl hbt
        rw [show (((absI n).toNat : Nat) : Int) = n by omega] at hbk
        refine ⟨by rw [List.length_cons]; omega, by omega, ?_⟩
        simp only [putA]
        rw [if_neg (by omega), if_neg hfit, List.nil_append, putA_acc, i3, hbk]
        show some _ = _
        dsimp only; rw [htk]; congr 2; omega
      · rw [if_neg hp] at h
        by_cases hz : zeroL (b.take (absI n).toNat) = true
        · rw [if_pos hz] at h
          obtain ⟨i1, i2, i3⟩ := get_put w _ xs hw' hbd h
          have e1 : oneI n = 0 := if_neg hp
          have hze := zeroL_eq hz
          rw [htl] at hze
          have ea := absI_neg (n := n) (by omega)
          refine ⟨by omega, by omega, ?_⟩
          simp only [putA]
          rw [if_pos (by omega), List.nil_append, putA_acc, i3, bytesN_0, show (0 - n).toNat = (absI n).toNat by omega, ← hze]
          show some _ = _
          dsimp only; rw [htk]; congr 2; omega
        · rw [if_neg hz] at h; cases h
theorem getF_putF {w b xs : List Int} (hb : ∀ x ∈ b, 0 ≤ x ∧ x ≤ 255) (h : getF w b = (xs, 0)) : putK w xs = true ∧ putB w xs = b.take (sizeW w).toNat ∧ sizeW w ≤ b.length := by
  unfold getF at h
  split at h
  · rename_i hr
    obtain ⟨h1, h2, h3⟩ := get_put w b xs (rightF_t.1 hr).2 hb h
    have hF : putF w xs = some (b.take (w.map absI).sum.toNat) := by
      unfold putF countW; rw [if_pos hr, if_pos ⟨hr, h1⟩, h3]
    unfold putK putB sizeW
    rw [hF, if_pos hr]; exact ⟨rfl, rfl, h2⟩
  · cases h
end Go.Eng
namespace Go.Eng
open Go.Proofs
set_option linter.unusedVariables false
set_option linter.unusedSimpArgs false
set_option maxRecDepth 100000
set_option maxHeartbeats 1000000
theorem allT_step {α : Type} {f : α → Bool} {l : List α} {i : Nat} {d : α} (h : i < l.length) (ht : (l.take i).all f = true) (hd : f (l.getD i d) = true) : (l.take (i + 1)).all f = true := by
  rw [List.take_succ_eq_append_getElem h, List.all_append, ht, Bool.true_and, List.all_cons, List.all_nil, Bool.and_true]
  rwa [List.getD_eq_getElem?_getD, List.getElem?_eq_getElem h] at hd
theorem allT_end {α : Type} {f : α → Bool} {l : List α} {i : Nat} (h : l.length ≤ i) (ht : (l.take i).all f = true) : l.all f = true := by
  rwa [List.take_of_length_le h] at ht
theorem all_miss {α : Type} {f : α → Bool} {l : List α} {i : Nat} {d : α} (h : i < l.length) (hd : f (l.getD i d) = false) : l.all f = false := by
  rw [List.all_eq_false]
  exact ⟨l.getD i d, getD_mem' h d, by rw [hd]; decide⟩
theorem take_len {α : Type} {l : List α} {i : Nat} (h : i ≤ l.length) : (l.take i).length = i := by rw [List.length_take]; omega
end Go.Eng
