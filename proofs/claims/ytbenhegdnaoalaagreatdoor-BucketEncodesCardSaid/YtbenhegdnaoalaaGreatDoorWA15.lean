/- Parts of the proof: O7. No condition. -/
import Derived.Test.YtbenhegdnaoalaaGreatDoorProg
import Derived.Test.YtbenhegdnaoalaaGreatDoorWA10
import Derived.KernelRfl
import Derived.Test.YtbenhegdnaoalaaGreatDoorWA14
namespace Go.Eng
open Go.Proofs
set_option linter.unusedVariables false
set_option linter.unusedSimpArgs false
set_option maxRecDepth 100000
set_option maxHeartbeats 1000000
theorem get211 (b : List Int) : getF [2, 1, 1] b = if b.length < 4 then ([], 1) else ([numL (b.take 2), b.getD 2 0, b.getD 3 0], 0) := by
  have hr : rightF [2, 1, 1] = true := by decide
  have a2 : absI 2 = 2 := by decide
  have a1 : absI 1 = 1 := by decide
  unfold getF
  rw [if_pos hr]
  unfold getA; unfold getA; unfold getA; unfold getA
  rw [a2, a1]
  by_cases h2 : b.length < 2
  · rw [if_pos (by omega), if_pos (by omega)]
  · rw [if_neg (by omega), if_pos (by decide)]
    by_cases h3 : b.length < 3
    · rw [if_pos (by rw [List.length_drop]; omega), if_pos (by omega)]
    · rw [if_neg (by rw [List.length_drop]; omega), if_pos (by decide)]
      by_cases h4 : b.length < 4
      · rw [if_pos (by rw [List.length_drop, List.length_drop]; omega), if_pos (by omega)]
      · rw [if_neg (by rw [List.length_drop, List.length_drop]; omega), if_pos (by decide), if_neg h4]
        obtain _ | ⟨x, _ | ⟨y, _ | ⟨z, _ | ⟨w, r⟩⟩⟩⟩ := b
        all_goals simp at h4
        simp [numL]
theorem get4 (b : List Int) : getF [4] b = if b.length < 4 then ([], 1) else ([numL (b.take 4)], 0) := by
  have hr : rightF [4] = true := by decide
  have a4 : absI 4 = 4 := by decide
  unfold getF
  rw [if_pos hr]
  unfold getA; unfold getA
  rw [a4]
  by_cases h4 : b.length < 4
  · rw [if_pos (by omega), if_pos h4]
  · rw [if_neg (by omega), if_pos (by decide), if_neg h4]; rfl
def decC (b : List Int) : Int := numL (b.take 2)
def decF (b : List Int) : Int := (b.getD 2 0).tdiv 2
def decH (b : List Int) : Bool := decide ((b.getD 2 0).tmod 2 = 1)
def decX (b : List Int) : Int := if decC b = 65535 then numL ((b.drop 4).take 4) else 0
def decA (b : List Int) : Int := if decC b = 65535 then 8 else 4
def decS (b : List Int) : Int := longS (decH b) (ofExtra (decC b)) (ofSize (decC b) (decF b)) (b.getD 3 0)
def decK (b : List Int) : Bool := longK (decH b) (ofExtra (decC b)) (ofSize (decC b) (decF b)) (b.getD 3 0)
def decV (b : List Int) : List Int := (b.take (decA b + decS b).toNat).drop (decA b).toNat
def decM (b : List Int) : List Int := if decH b = true then (b.take (decA b + decS b + decS b).toNat).drop (decA b + decS b).toNat else []
def decN (b : List Int) : Int := decA b + decS b + if decH b = true then decS b else 0
def decE (b : List Int) : Int := if b.length < 4 then 1026 else if ofOk (decC b) (decF b) = false then 1031 else if decH b = true ∧ ofMask (decC b) (decF b) = false then 1033 else if decK b = false ∨ (b.length : Int) - 4 < b.getD 3 0 then 1026 else wrongF (decF b) (decH b) (decV b) (decM b) (ofBits (decC b) (decF b)) (ofExtra (decC b))
def decI (b : List Int) (x : Int) : Int := if decE b = 0 then x else 0
def decR (b : List Int) (l : List Int) : List Int := if decE b = 0 then l else []
theorem cur4 {b : List Int} {sh od : Int} (h : 4 ≤ b.length) : curL [2, 1, 1] b 0 0 = [decC b, b.getD 2 0, b.getD 3 0] ∧ curP [2, 1, 1] b 0 0 = 4 ∧ curE [2, 1, 1] b 0 sh od 0 = 0 := by
  have e : getF [2, 1, 1] (b.drop (0 : Int).toNat) = ([numL (b.take 2), b.getD 2 0, b.getD 3 0], 0) := by
    rw [show (0 : Int).toNat = 0 from rfl, List.drop_zero, get211, if_neg (by omega)]
  have es : sizeW [2, 1, 1] = 4 := by decide
  unfold curL curP curE getL getK
  rw [e, es]; exact ⟨rfl, rfl, rfl⟩
theorem cur0 {b : List Int} {sh od : Int} (h : b.length < 4) : curL [2, 1, 1] b 0 0 = [] ∧ curP [2, 1, 1] b 0 0 = 0 ∧ curE [2, 1, 1] b 0 sh od 0 = sh := by
  have e : getF [2, 1, 1] (b.drop (0 : Int).toNat) = ([], 1) := by
    rw [show (0 : Int).toNat = 0 from rfl, List.drop_zero, get211, if_pos (by omega)]
  unfold curL curP curE getL getK
  rw [e]; exact ⟨rfl, rfl, rfl⟩
theorem num4 {b : List Int} {p sh od : Int} (hp : 0 ≤ p) (h : p + 4 ≤ b.length) : numV 4 b p 0 = numL ((b.drop p.toNat).take 4) ∧ numP 4 b p 0 = p + 4 ∧ numE 4 b p sh od 0 = 0 := by
  have e : getF [4] (b.drop p.toNat) = ([numL ((b.drop p.toNat).take 4)], 0) := by
    rw [get4, if_neg (by rw [List.length_drop]; omega)]
  have es : sizeW [4] = 4 := by decide
  unfold numV numP numE curL curP curE getL getK
  rw [e, es]; exact ⟨rfl, rfl, rfl⟩
theorem take_ok {n p sh : Int} {b : List Int} (hn : 0 ≤ n) (h : p + n ≤ b.length) : takeL n b p sh 0 = (b.take (p + n).toNat).drop p.toNat ∧ takeP n b p sh 0 = p + n ∧ takeE n b p sh 0 = 0 := by
  have e : takeE n b p sh 0 = 0 := by unfold takeE; rw [if_neg (by omega), if_neg (by omega)]
  unfold takeL takeP; rw [e]; exact ⟨rfl, rfl, rfl⟩
theorem bytes_le {b : List Int} (hb : ∀ x ∈ b, 0 ≤ x ∧ x ≤ 255) (i : Nat) : 0 ≤ b.getD i 0 ∧ b.getD i 0 ≤ 255 := by
  by_cases h : i < b.length
  · exact hb _ (getD_mem' (α := Int) h 0)
  · rw [List.getD_eq_getElem?_getD, List.getElem?_eq_none (by omega)]; decide
theorem two_le {b : List Int} (hb : ∀ x ∈ b, 0 ≤ x ∧ x ≤ 255) : 0 ≤ decC b ∧ decC b ≤ 65535 := by
  have := numL_le (b.take 2) fun x hx => hb x (List.mem_of_mem_take hx)
  have h2 : ∀ k ≤ 2, (256 : Int) ^ k ≤ 65536 := by decide
  have := h2 (b.take 2).length (by rw [List.length_take]; omega)
  unfold decC; omega
theorem dec_len {b : List Int} (hn : 0 ≤ b.getD 3 0) (hof : 0 ≤ ofSize (decC b) (decF b)) (hk : decK b = true) : 0 ≤ decS b ∧ decN b = 4 + b.getD 3 0 ∧ decS b ≤ ofSize (decC b) (decF b) := by
  unfold decK longK at hk
  unfold decN decS longS decA
  by_cases hc : decC b = 65535
  · have he : ofExtra (decC b) = true := decide_eq_true hc
    rw [he] at hk ⊢
    rw [if_pos hc]
    rw [if_pos rfl] at hk ⊢
    simp only [Bool.and_eq_true, decide_eq_true_eq] at hk
    obtain ⟨⟨k1, k2⟩, k3⟩ := hk
    cases hh : decH b with
    | true =>
      rw [hh] at k2 k3
      simp only [if_true] at k2 k3 ⊢
      rw [tmod_nn k1] at k2; rw [tdiv_nn k1] at k3 ⊢; omega
    | false =>
      rw [hh] at k2 k3
      simp only [if_false, Bool.false_eq_true] at k2 k3 ⊢
      rw [tdiv_nn k1] at k3 ⊢; omega
  · have he : ofExtra (decC b) = false := decide_eq_false hc
    rw [he] at hk ⊢
    rw [if_neg hc]
    simp only [if_false, Bool.false_eq_true, decide_eq_true_eq] at hk ⊢
    cases hh : decH b with
    | true => rw [hh] at hk; simp only [if_true] at hk ⊢; omega
    | false => rw [hh] at hk; simp only [if_false, Bool.false_eq_true] at hk ⊢; omega
theorem decF_le {b : List Int} (hq : 0 ≤ b.getD 2 0 ∧ b.getD 2 0 ≤ 255) : 0 ≤ decF b ∧ decF b ≤ 127 := by
  unfold decF; rw [tdiv_nn hq.1]; omega
theorem drop_take_len {b : List Int} {p n : Int} (hp : 0 ≤ p) (hn : 0 ≤ n) (h : p + n ≤ b.length) : ((((b.take (p + n).toNat).drop p.toNat).length : Nat) : Int) = n := by
  rw [List.length_drop, List.length_take]; omega
theorem dec_wrong {b : List Int} (h4 : ¬ b.length < 4) (hok : ofOk (decC b) (decF b) = true) (hm : decH b = true → ofMask (decC b) (decF b) = true) (hk : decK b = true) (hl : ¬ (b.length : Int) - 4 < b.getD 3 0) : decE b = wrongF (decF b) (decH b) (decV b) (decM b) (ofBits (decC b) (decF b)) (ofExtra (decC b)) := by
  unfold decE
  rw [if_neg h4, if_neg (by rw [hok]; decide), if_neg (fun h => by rw [hm h.1] at h; exact absurd h.2 (by decide)), if_neg (fun h => h.elim (by rw [hk]; decide) hl)]
def ir_oxm_Decode : IR :=
(.seq
(.keep [0]
(.reg (oD 2 (.box [.int .i64 0, .int .i64 0, .kb false, .int .u64 0, .imm (.int .u8) [], .imm (.int .u8) []]) ::
oD 3 (.mov (cI 0)) ::
oD 4 (.mov (cI 0)) ::
[])))
(.seq
(.reg (oM 14 0 ::
oD 15 (.call false (.f 28) [(.t 14), (cI 1026), (cI 1026)]) ::
oM 5 15 ::
[]))
(.seq
(.reg (oM 16 5 ::
oD 17 (.sliceAll (.int .i64) 3 [(0, 1, (cI 2)), (1, 1, (cI 1)), (2, 1, (cI 1))]) ::
oD 18 (.call false (.f 131) [(.t 16), (.t 17)]) ::
oM 6 18 ::
[]))
(.seq
(.seq
(.keep [2, 5, 6]
(.reg (oM 19 6 ::
oD 20 (.len (.t 19)) ::
oD 21 (.bin .eql (.t 20) (cI 0)) ::
[])))
(.cond (.t 21)
(.seq
(.keep [2, 5]
(.reg (oD 22 (.build [.int .i64 0, .int .i64 0, .kb false, .int .u64 0, .imm (.int .u8) [], .imm (.int .u8) []] []) ::
oM 23 5 ::
oD 24 (.call false (.f 31) [(.t 23)]) ::
oN (.store 6 (.t 2) (.t 22)) ::
oD 3 (.mov (cI 0)) ::
oM 4 24 ::
[])))
.ret)
.skip))
(.seq
(.keep [2, 5, 6]
(.regD ((oM 25 6, []) ::
(oD 26 (.indexSl 1 (.t 25) (cI 0)), []) ::
(oL 27 26, []) ::
(oD 28 (.conv .i64 (.t 27)), []) ::
(oM 29 6, [0, 0, 0, 0]) ::
(oD 30 (.indexSl 1 (.t 29) (cI 1)), [1, 0, 0, 0]) ::
(oL 31 30, [2, 0, 0, 0]) ::
(oD 32 (.bin .quo (.t 31) (.c (.int .u64 2))), [3, 0, 0, 0]) ::
(oD 33 (.conv .i64 (.t 32)), [4, 0, 0, 0]) ::
(oM 34 6, [0, 0, 0, 0, 0, 0, 0, 0, 0]) ::
(oD 35 (.indexSl 1 (.t 34) (cI 1)), [1, 0, 0, 0, 0, 0, 0, 0, 0]) ::
(oL 36 35, [2, 0, 0, 0, 0, 0, 0, 0, 0]) ::
(oD 37 (.bin .rem (.t 36) (.c (.int .u64 2))), [3, 0, 0, 0, 0, 0, 0, 0, 0]) ::
(oD 38 (.bin .eql (.t 37) (.c (.int .u64 1))), [4, 0, 0, 0, 0, 0, 0, 0, 0]) ::
(oD 39 (.build [.int .i64 0, .int .i64 0, .kb false, .int .u64 0, .imm (.int .u8) [], .imm (.int .u8) []] [(0, 1, (.t 28)), (1, 1, (.t 33)), (2, 1, (.t 38))]), []) ::
(oD 7 (.box [.int .i64 0, .int .i64 0, .kb false, .int .u64 0, .imm (.int .u8) [], .imm (.int .u8) []]), [0, 0, 0, 0, 0, 0, 0, 0, 0, 0, 0, 0, 0, 0, 0]) ::
(oN (.store 6 (.t 7) (.t 39)), []) ::
[])))
(.seq
(.keep [2, 5, 6, 7]
(.reg (oD 41 (.load (some 6) (.t 7)) ::
oD 42 (.call false (.f 272) [(.t 41)]) ::
oM 40 42 ::
oD 43 (.extract (.t 40) 0) ::
oD 44 (.extract (.t 40) 1) ::
oD 8 (.box [.int .i64 0, .int .i64 0, .kb false, .kb false]) ::
oN (.store 4 (.t 8) (.t 43)) ::
oM 9 44 ::
[])))
(.seq
(.keep [2, 5, 6, 7, 8, 9]
(.regD ((oD 46 (.load (some 6) (.t 7)), []) ::
(oD 47 (.load (some 4) (.t 8)), [0]) ::
(oM 48 6, [0, 0]) ::
(oD 49 (.indexSl 1 (.t 48) (cI 2)), [1, 0]) ::
(oL 50 49, [2, 0]) ::
(oD 51 (.conv .i64 (.t 50)), [3, 0]) ::
(oD 52 (.call false (.f 308) [(.t 46), (.t 47), (.t 51)]), []) ::
(oM 45 52, []) ::
(oD 53 (.extract (.t 45) 0), []) ::
(oD 54 (.extract (.t 45) 1), [0]) ::
(oM 10 53, [0]) ::
(oM 11 54, []) ::
[])))
(.seq
(.block 0
(.seq
(.keep [2, 5, 6, 7, 8, 9, 10, 11]
(.reg (oM 56 9 ::
oD 57 (.un .not (.t 56)) ::
oM 55 57 ::
[])))
(.cond (.t 55)
(.seq
(.reg (oD 58 (.build [.int .i64 0, .int .i64 0, .kb false, .int .u64 0, .imm (.int .u8) [], .imm (.int .u8) []] []) ::
oN (.store 6 (.t 2) (.t 58)) ::
oD 3 (.mov (cI 0)) ::
oD 4 (.mov (cI 1031)) ::
[]))
.ret)
(.seq
(.keep [2, 5, 6, 7, 8, 10, 11]
(.reg (oD 60 (.fieldAddr 2 (.t 7)) ::
oL 61 60 ::
oM 62 61 ::
oT 62 63 (.fieldAddr 2 (.t 8)) ::
oT 62 64 (.load none (.t 63)) ::
oT 62 65 (.un .not (.t 64)) ::
oD 66 (.pick (.t 62) (.t 65) cF) ::
oM 59 66 ::
[])))
(.cond (.t 59)
(.seq
(.keep [2]
(.reg (oD 67 (.build [.int .i64 0, .int .i64 0, .kb false, .int .u64 0, .imm (.int .u8) [], .imm (.int .u8) []] []) ::
oN (.store 6 (.t 2) (.t 67)) ::
oD 3 (.mov (cI 0)) ::
oD 4 (.mov (cI 1033)) ::
[])))
.ret)
(.seq
(.keep [2, 5, 6, 7, 8, 10, 11]
(.regD ((oM 69 11, []) ::
(oD 70 (.un .not (.t 69)), []) ::
(oM 71 70, []) ::
(oF 71 72 (.mov (.t 5)), []) ::
(oF 71 73 (.call false (.f 32) [(.t 72)]), []) ::
(oF 71 74 (.mov (.t 6)), [0, 0]) ::
(oF 71 75 (.indexSl 1 (.t 74) (cI 2)), [1, 0]) ::
(oF 71 76 (.load none (.t 75)), [2, 0]) ::
(oF 71 77 (.conv .i64 (.t 76)), [3, 0]) ::
(oF 71 78 (.bin .lss (.t 73) (.t 77)), []) ::
(oD 79 (.pick (.t 71) cT (.t 78)), []) ::
(oM 68 79, []) ::
[])))
(.cond (.t 68)
(.seq
(.keep [2]
(.reg (oD 80 (.build [.int .i64 0, .int .i64 0, .kb false, .int .u64 0, .imm (.int .u8) [], .imm (.int .u8) []] []) ::
oN (.store 6 (.t 2) (.t 80)) ::
oD 3 (.mov (cI 0)) ::
oD 4 (.mov (cI 1026)) ::
[])))
.ret)
(.seq
(.keep [2, 5, 7, 8, 10]
(.reg (oD 82 (.fieldAddr 3 (.t 8)) ::
oL 83 82 ::
oM 81 83 ::
[])))
(.cond (.t 81)
(.reg (oM 84 5 ::
oD 85 (.call false (.f 253) [(.t 84), (cI 4)]) ::
oD 86 (.fieldAddr 3 (.t 7)) ::
oN (.store 1 (.t 86) (.t 85)) ::
[]))
.skip)))))))))
(.seq
(.keep [2, 5, 7, 8, 10]
(.reg (oM 87 5 ::
oD 88 (.mkfn 29 [(.t 87)] []) ::
oM 12 88 ::
[])))
(.seq
(.reg (oM 89 12 ::
oM 90 10 ::
oD 91 (.call false (.t 89) [(.t 90)]) ::
oD 92 (.fieldAddr 4 (.t 7)) ::
oN (.store 1 (.t 92) (.t 91)) ::
[]))
(.seq
(.seq
(.keep [2, 5, 7, 8, 10, 12]
(.reg (oD 93 (.fieldAddr 2 (.t 7)) ::
oL 94 93 ::
[])))
(.cond (.t 94)
(.reg (oM 95 12 ::
oM 96 10 ::
oD 97 (.call false (.t 95) [(.t 96)]) ::
oD 98 (.fieldAddr 5 (.t 7)) ::
oN (.store 1 (.t 98) (.t 97)) ::
[]))
.skip))
(.seq
(.seq
(.keep [2, 5, 7, 8]
(.reg (oD 99 (.load (some 6) (.t 7)) ::
oD 100 (.load (some 4) (.t 8)) ::
oD 101 (.call false (.f 273) [(.t 99), (.t 100)]) ::
oM 13 101 ::
[])))
(.seq
(.reg (oM 102 13 ::
oD 103 (.bin .neq (.t 102) (cI 0)) ::
[]))
(.cond (.t 103)
(.seq
(.keep [2, 13]
(.reg (oD 104 (.build [.int .i64 0, .int .i64 0, .kb false, .int .u64 0, .imm (.int .u8) [], .imm (.int .u8) []] []) ::
oM 105 13 ::
oN (.store 6 (.t 2) (.t 104)) ::
oD 3 (.mov (cI 0)) ::
oM 4 105 ::
[])))
.ret)
.skip)))
(.seq
(.keep [2, 5, 7]
(.regD ((oD 106 (.load (some 6) (.t 7)), []) ::
(oM 107 5, [0]) ::
(oD 108 (.call false (.f 255) [(.t 107)]), [1]) ::
(oN (.store 6 (.t 2) (.t 106)), []) ::
(oM 3 108, []) ::
(oD 4 (.mov (cI 0)), []) ::
[])))
.ret)))))))))))))
def rd_oxm_Decode : List RD := [.cell 2 (some 6) true [], .tmp 3 true none, .tmp 4 true none]
theorem ok_oxm_Decode : fnOk Tryz.prog Tryz.f295 ir_oxm_Decode rd_oxm_Decode = true := by kernel_rfl
def S_oxm_Decode : List AV → List Obj → Option (Prop × AV)
  | [.imm (.int .u8) b], [] => some ((b.length ≤ 140737488355328, .tup [.agg [.int .i64 (decI b (decC b)), .int .i64 (decI b (decF b)), .bool ((if decE b = 0 then decH b else false)), .int .u64 (decI b (decX b)), .imm (.int .u8) (decR b (decV b)), .imm (.int .u8) (decR b (decM b))], .int .i64 (decI b (decN b)), .int .i64 (decE b)]))
  | _, _ => none
theorem snd_oxm_Decode : SoundS Tryz.prog 295 (RoF S_oxm_Decode).sum := by
  refine ro_fn Tryz.func295 ok_oxm_Decode (env_cons (s := RwF S_cursor_New) snd_cursor_New (env_cons (s := RwF S_cursor_Cursor_Row) snd_cursor_Cursor_Row (env_cons (s := RoF S_cursor_Cursor_Err) snd_cursor_Cursor_Err (env_cons (s := RoF S_oxm_of) snd_oxm_of (env_cons (s := RoF S_oxm_long) snd_oxm_long (env_cons (s := RoF S_cursor_Cursor_Left) snd_cursor_Cursor_Left (env_cons (s := RwF S_cursor_Cursor_Num) snd_cursor_Cursor_Num (env_cons (s := RwF S_cursor_Cursor_Bytes) snd_cursor_Cursor_Bytes (env_cons (s := RoF S_oxm_wrong) snd_oxm_wrong (env_cons (s := RoF S_cursor_Cursor_At) snd_cursor_Cursor_At (env_nil _))))))))))) fun args objs p v e => ?_
  unfold S_oxm_Decode at e
  split at e
  · rename_i b
    cases e
    refine ⟨rfl, fun hw ho hp => ?_⟩
    change List Int at b
    have hb : ∀ x ∈ b, 0 ≤ x ∧ x ≤ 255 := fun x hx => (hw (.imm (.int .u8) b) (by simp)).1 x hx
    by_cases h4 : b.length < 4
    · obtain ⟨hL, hP, hE⟩ := cur0 (sh := 1026) (od := 1026) h4
      have hd : decE b = 1026 := by unfold decE; rw [if_pos h4]
      repeat' (intro t ht; first | (cases t <;> first | (cases ht; done) | ((try simp only [bn_s] at ht); (try simp only [nd_s] at ht))) | (refine ht ?_ ?_ <;> clear ht) | (refine ht.1 ?_ ?_ <;> clear ht) | (refine ht ?_; clear ht))
      all_goals (try simp only [hL, hP, hE] at *)
      all_goals first
        | exact hp
        | exact absurd rfl ‹¬ ((([] : List Int).length : Int) = 0)›
        | ((try simp only [nd_s, bn_s, mm_s] at *); omega)
        | (simp only [decI, decR, hd]; exact ⟨rfl, by first | rfl | exact True.intro⟩)
        | trace_state
    · obtain ⟨hL, hP, hE⟩ := cur4 (b := b) (sh := 1026) (od := 1026) (by omega)
      have hC := two_le hb
      have hq := bytes_le hb 2
      have hn := bytes_le hb 3
      have hFl := decF_le hq
      have hof := of_le (decC b) (decF b)
      have g0 : ∀ d, [decC b, b.getD 2 0, b.getD 3 0].getD (Int.toNat 0) d = decC b := fun _ => rfl
      have g1 : ∀ d, [decC b, b.getD 2 0, b.getD 3 0].getD (Int.toNat 1) d = b.getD 2 0 := fun _ => rfl
      have g2 : ∀ d, [decC b, b.getD 2 0, b.getD 3 0].getD (Int.toNat 2) d = b.getD 3 0 := fun _ => rfl
      have gl : ((([decC b, b.getD 2 0, b.getD 3 0]).length : Nat) : Int) = 3 := rfl
      have hF : (b.getD 2 0).tdiv 2 = decF b := rfl
      have hH : ((b.getD 2 0).tmod 2 = 1) = (decH b = true) := propext ⟨fun h => decide_eq_true h, fun h => of_decide_eq_true h⟩
      have hS : longS (decH b) (ofExtra (decC b)) (ofSize (decC b) (decF b)) (b.getD 3 0) = decS b := rfl
      have hK : longK (decH b) (ofExtra (decC b)) (ofSize (decC b) (decF b)) (b.getD 3 0) = decK b := rfl
      by_cases hs : decK b = true ∧ ¬ (b.length : Int) - 4 < b.getD 3 0
      · obtain ⟨hd1, hd2, hd3⟩ := dec_len hn.1 hof.1 hs.1
        by_cases hx : decC b = 65535
        · have hx' : ofExtra (decC b) = true := decide_eq_true hx
          have h8 : (8 : Int) ≤ b.length := by
            have h := hs.1
            unfold decK longK at h
            rw [hx', if_pos rfl] at h
            simp only [Bool.and_eq_true, decide_eq_true_eq] at h
            omega
          cases hh : decH b with
          | true =>
            have hd2' : decN b = decA b + decS b + decS b := by unfold decN; rw [hh]; rfl
            have hA : decA b = 8 := if_pos hx
            obtain ⟨hN1, hN2, hN3⟩ := num4 (b := b) (p := 4) (sh := 1026) (od := 1026) (by decide) (by omega)
            have hX : decX b = numL ((b.drop (4 : Int).toNat).take 4) := if_pos hx
            simp only [show (4 : Int) + 4 = 8 from rfl] at hN2
            obtain ⟨hT1, hT2, hT3⟩ := take_ok (n := decS b) (p := 8) (sh := 1026) (b := b) hd1 (by omega)
            have hV : (b.take (8 + decS b).toNat).drop (8 : Int).toNat = decV b := by unfold decV; rw [hA]
            have hVl := drop_take_len (b := b) (p := 8) (n := decS b) (by decide) hd1 (by omega)
            rw [hV] at hT1 hVl
            obtain ⟨hU1, hU2, hU3⟩ := take_ok (n := decS b) (p := 8 + decS b) (sh := 1026) (b := b) hd1 (by omega)
            have hM : (b.take (8 + decS b + decS b).toNat).drop (8 + decS b).toNat = decM b := by unfold decM; rw [hh, hA]; rfl
            have hMl := drop_take_len (b := b) (p := 8 + decS b) (n := decS b) (by omega) hd1 (by omega)
            rw [hM] at hU1 hMl
            have hNN : 8 + decS b + decS b = decN b := by omega
            have hdw : ofOk (decC b) (decF b) = true → ofMask (decC b) (decF b) = true → decE b = wrongF (decF b) true (decV b) (decM b) (ofBits (decC b) (decF b)) true := fun h1 h3 => by rw [dec_wrong h4 h1 (fun h2 => h3) hs.1 hs.2, hh, hx']
            have hdm : decH b = true → ofMask (decC b) (decF b) = false → ofOk (decC b) (decF b) = true → decE b = 1033 := fun h1 h2 h3 => by unfold decE; rw [if_neg h4, h3, h1, h2]; rfl
            rw [hh] at hdm
            obtain ⟨c1, hc1⟩ : ∃ p : Prop, p = (decK b = true) := ⟨_, rfl⟩
            repeat' (intro t ht; first | (cases t <;> first | (cases ht; done) | ((try simp only [bn_s] at ht); (try simp only [nd_s] at ht))) | (refine ht ?_ ?_ <;> clear ht) | (refine ht.1 ?_ ?_ <;> clear ht) | (refine ht ?_; clear ht))
            all_goals (try simp only [hL, hP, hE, g0, g1, g2, gl, hF, hH, hS, hK, Bool.decide_eq_true] at *)
            all_goals (try simp only [hh, hx', hT1, hT2, hT3, hNN, Bool.false_eq_true, not_false_eq_true, not_true_eq_false, reduceCtorEq, hN1, hN2, hN3, hU1, hU2, hU3] at *)
            all_goals first
              | exact hp
              | exact (by decide)
              | omega
              | ((try simp only [nd_s, bn_s, mm_s] at *); omega)
              | (refine ⟨fun h => ?_, ?_, ?_, ?_⟩ <;> first | omega | (simp only [List.length_nil]; omega) | (cases h; done))
              | exact absurd hs.1 (by rw [‹decK b = false›]; decide)
              | (have h0 : decE b = 1031 := by unfold decE; rw [if_neg h4, if_pos (by assumption)]
                 simp only [decI, decR, h0]; exact ⟨rfl, by first | rfl | exact True.intro⟩)
              | (have h0 : decE b = 1033 := hdm (by first | rfl | exact True.intro) (by assumption) (by assumption)
                 simp only [decI, decR, h0]; exact ⟨rfl, by first | rfl | exact True.intro⟩)
              | (have hd := hdw (by assumption) (by assumption)
                 first
                   | (have h0 : decE b = 0 := hd.trans (by assumption)
                      refine ⟨?_, by first | rfl | exact True.intro⟩; first | (simp only [decI, decR, if_pos h0, h0, ite_self, hX]; done) | (simp only [decI, decR, if_pos h0, h0, ite_self, hX]; rfl))
                   | (have h0 : ¬ decE b = 0 := by rw [hd]; assumption
                      refine ⟨?_, by first | rfl | exact True.intro⟩; simp only [decI, decR, if_neg h0, ite_self]; rw [hd]))
              | trace_state
          | false =>
            have hd2' : decN b = decA b + decS b := by unfold decN; rw [hh]; simp
            have hA : decA b = 8 := if_pos hx
            obtain ⟨hN1, hN2, hN3⟩ := num4 (b := b) (p := 4) (sh := 1026) (od := 1026) (by decide) (by omega)
            have hX : decX b = numL ((b.drop (4 : Int).toNat).take 4) := if_pos hx
            simp only [show (4 : Int) + 4 = 8 from rfl] at hN2
            obtain ⟨hT1, hT2, hT3⟩ := take_ok (n := decS b) (p := 8) (sh := 1026) (b := b) hd1 (by omega)
            have hV : (b.take (8 + decS b).toNat).drop (8 : Int).toNat = decV b := by unfold decV; rw [hA]
            have hVl := drop_take_len (b := b) (p := 8) (n := decS b) (by decide) hd1 (by omega)
            rw [hV] at hT1 hVl
            have hM : decM b = [] := by unfold decM; rw [hh]; rfl
            have hMl : (((decM b).length : Nat) : Int) = 0 := by rw [hM]; rfl
            have hNN : 8 + decS b = decN b := by omega
            have hdw : ofOk (decC b) (decF b) = true → decE b = wrongF (decF b) false (decV b) [] (ofBits (decC b) (decF b)) true := fun h1 => by rw [dec_wrong h4 h1 (fun h2 => absurd h2 (by rw [hh]; decide)) hs.1 hs.2, hh, hx', hM]
            have hdm : decH b = true → ofMask (decC b) (decF b) = false → ofOk (decC b) (decF b) = true → decE b = 1033 := fun h1 h2 h3 => by unfold decE; rw [if_neg h4, h3, h1, h2]; rfl
            rw [hh] at hdm
            obtain ⟨c1, hc1⟩ : ∃ p : Prop, p = (decK b = true) := ⟨_, rfl⟩
            repeat' (intro t ht; first | (cases t <;> first | (cases ht; done) | ((try simp only [bn_s] at ht); (try simp only [nd_s] at ht))) | (refine ht ?_ ?_ <;> clear ht) | (refine ht.1 ?_ ?_ <;> clear ht) | (refine ht ?_; clear ht))
            all_goals (try simp only [hL, hP, hE, g0, g1, g2, gl, hF, hH, hS, hK, Bool.decide_eq_true] at *)
            all_goals (try simp only [hh, hx', hT1, hT2, hT3, hNN, Bool.false_eq_true, not_false_eq_true, not_true_eq_false, reduceCtorEq, hN1, hN2, hN3] at *)
            all_goals first
              | exact hp
              | exact (by decide)
              | omega
              | ((try simp only [nd_s, bn_s, mm_s] at *); omega)
              | (refine ⟨fun h => ?_, ?_, ?_, ?_⟩ <;> first | omega | (simp only [List.length_nil]; omega) | (cases h; done))
              | exact absurd hs.1 (by rw [‹decK b = false›]; decide)
              | (have h0 : decE b = 1031 := by unfold decE; rw [if_neg h4, if_pos (by assumption)]
                 simp only [decI, decR, h0]; exact ⟨rfl, by first | rfl | exact True.intro⟩)
              | (have h0 : decE b = 1033 := hdm (by first | rfl | exact True.intro) (by assumption) (by assumption)
                 simp only [decI, decR, h0]; exact ⟨rfl, by first | rfl | exact True.intro⟩)
              | (have hd := hdw (by assumption)
                 first
                   | (have h0 : decE b = 0 := hd.trans (by assumption)
                      refine ⟨?_, by first | rfl | exact True.intro⟩; first | (simp only [decI, decR, if_pos h0, h0, ite_self, hM, hX]; done) | (simp only [decI, decR, if_pos h0, h0, ite_self, hM, hX]; rfl))
                   | (have h0 : ¬ decE b = 0 := by rw [hd]; assumption
                      refine ⟨?_, by first | rfl | exact True.intro⟩; simp only [decI, decR, if_neg h0, ite_self]; rw [hd]))
              | trace_state
        · have hx' : ofExtra (decC b) = false := decide_eq_false hx
          cases hh : decH b with
          | true =>
            have hd2' : decN b = decA b + decS b + decS b := by unfold decN; rw [hh]; rfl
            have hA : decA b = 4 := if_neg hx
            have hX : decX b = 0 := if_neg hx
            obtain ⟨hT1, hT2, hT3⟩ := take_ok (n := decS b) (p := 4) (sh := 1026) (b := b) hd1 (by omega)
            have hV : (b.take (4 + decS b).toNat).drop (4 : Int).toNat = decV b := by unfold decV; rw [hA]
            have hVl := drop_take_len (b := b) (p := 4) (n := decS b) (by decide) hd1 (by omega)
            rw [hV] at hT1 hVl
            obtain ⟨hU1, hU2, hU3⟩ := take_ok (n := decS b) (p := 4 + decS b) (sh := 1026) (b := b) hd1 (by omega)
            have hM : (b.take (4 + decS b + decS b).toNat).drop (4 + decS b).toNat = decM b := by unfold decM; rw [hh, hA]; rfl
            have hMl := drop_take_len (b := b) (p := 4 + decS b) (n := decS b) (by omega) hd1 (by omega)
            rw [hM] at hU1 hMl
            have hNN : 4 + decS b + decS b = decN b := by omega
            have hdw : ofOk (decC b) (decF b) = true → ofMask (decC b) (decF b) = true → decE b = wrongF (decF b) true (decV b) (decM b) (ofBits (decC b) (decF b)) false := fun h1 h3 => by rw [dec_wrong h4 h1 (fun h2 => h3) hs.1 hs.2, hh, hx']
            have hdm : decH b = true → ofMask (decC b) (decF b) = false → ofOk (decC b) (decF b) = true → decE b = 1033 := fun h1 h2 h3 => by unfold decE; rw [if_neg h4, h3, h1, h2]; rfl
            rw [hh] at hdm
            obtain ⟨c1, hc1⟩ : ∃ p : Prop, p = (decK b = true) := ⟨_, rfl⟩
            repeat' (intro t ht; first | (cases t <;> first | (cases ht; done) | ((try simp only [bn_s] at ht); (try simp only [nd_s] at ht))) | (refine ht ?_ ?_ <;> clear ht) | (refine ht.1 ?_ ?_ <;> clear ht) | (refine ht ?_; clear ht))
            all_goals (try simp only [hL, hP, hE, g0, g1, g2, gl, hF, hH, hS, hK, Bool.decide_eq_true] at *)
            all_goals (try simp only [hh, hx', hT1, hT2, hT3, hNN, Bool.false_eq_true, not_false_eq_true, not_true_eq_false, reduceCtorEq, hU1, hU2, hU3] at *)
            all_goals first
              | exact hp
              | exact (by decide)
              | omega
              | ((try simp only [nd_s, bn_s, mm_s] at *); omega)
              | (refine ⟨fun h => ?_, ?_, ?_, ?_⟩ <;> first | omega | (simp only [List.length_nil]; omega) | (cases h; done))
              | exact absurd hs.1 (by rw [‹decK b = false›]; decide)
              | (have h0 : decE b = 1031 := by unfold decE; rw [if_neg h4, if_pos (by assumption)]
                 simp only [decI, decR, h0]; exact ⟨rfl, by first | rfl | exact True.intro⟩)
              | (have h0 : decE b = 1033 := hdm (by first | rfl | exact True.intro) (by assumption) (by assumption)
                 simp only [decI, decR, h0]; exact ⟨rfl, by first | rfl | exact True.intro⟩)
              | (have hd := hdw (by assumption) (by assumption)
                 first
                   | (have h0 : decE b = 0 := hd.trans (by assumption)
                      refine ⟨?_, by first | rfl | exact True.intro⟩; first | (simp only [decI, decR, if_pos h0, h0, ite_self, hX]; done) | (simp only [decI, decR, if_pos h0, h0, ite_self, hX]; rfl))
                   | (have h0 : ¬ decE b = 0 := by rw [hd]; assumption
                      refine ⟨?_, by first | rfl | exact True.intro⟩; simp only [decI, decR, if_neg h0, ite_self]; rw [hd]))
              | trace_state
          | false =>
            have hd2' : decN b = decA b + decS b := by unfold decN; rw [hh]; simp
            have hA : decA b = 4 := if_neg hx
            have hX : decX b = 0 := if_neg hx
            obtain ⟨hT1, hT2, hT3⟩ := take_ok (n := decS b) (p := 4) (sh := 1026) (b := b) hd1 (by omega)
            have hV : (b.take (4 + decS b).toNat).drop (4 : Int).toNat = decV b := by unfold decV; rw [hA]
            have hVl := drop_take_len (b := b) (p := 4) (n := decS b) (by decide) hd1 (by omega)
            rw [hV] at hT1 hVl
            have hM : decM b = [] := by unfold decM; rw [hh]; rfl
            have hMl : (((decM b).length : Nat) : Int) = 0 := by rw [hM]; rfl
            have hNN : 4 + decS b = decN b := by omega
            have hdw : ofOk (decC b) (decF b) = true → decE b = wrongF (decF b) false (decV b) [] (ofBits (decC b) (decF b)) false := fun h1 => by rw [dec_wrong h4 h1 (fun h2 => absurd h2 (by rw [hh]; decide)) hs.1 hs.2, hh, hx', hM]
            have hdm : decH b = true → ofMask (decC b) (decF b) = false → ofOk (decC b) (decF b) = true → decE b = 1033 := fun h1 h2 h3 => by unfold decE; rw [if_neg h4, h3, h1, h2]; rfl
            rw [hh] at hdm
            obtain ⟨c1, hc1⟩ : ∃ p : Prop, p = (decK b = true) := ⟨_, rfl⟩
            repeat' (intro t ht; first | (cases t <;> first | (cases ht; done) | ((try simp only [bn_s] at ht); (try simp only [nd_s] at ht))) | (refine ht ?_ ?_ <;> clear ht) | (refine ht.1 ?_ ?_ <;> clear ht) | (refine ht ?_; clear ht))
            all_goals (try simp only [hL, hP, hE, g0, g1, g2, gl, hF, hH, hS, hK, Bool.decide_eq_true] at *)
            all_goals (try simp only [hh, hx', hT1, hT2, hT3, hNN, Bool.false_eq_true, not_false_eq_true, not_true_eq_false, reduceCtorEq] at *)
            all_goals first
              | exact hp
              | exact (by decide)
              | omega
              | ((try simp only [nd_s, bn_s, mm_s] at *); omega)
              | (refine ⟨fun h => ?_, ?_, ?_, ?_⟩ <;> first | omega | (simp only [List.length_nil]; omega) | (cases h; done))
              | exact absurd hs.1 (by rw [‹decK b = false›]; decide)
              | (have h0 : decE b = 1031 := by unfold decE; rw [if_neg h4, if_pos (by assumption)]
                 simp only [decI, decR, h0]; exact ⟨rfl, by first | rfl | exact True.intro⟩)
              | (have h0 : decE b = 1033 := hdm (by first | rfl | exact True.intro) (by assumption) (by assumption)
                 simp only [decI, decR, h0]; exact ⟨rfl, by first | rfl | exact True.intro⟩)
              | (have hd := hdw (by assumption)
                 first
                   | (have h0 : decE b = 0 := hd.trans (by assumption)
                      refine ⟨?_, by first | rfl | exact True.intro⟩; first | (simp only [decI, decR, if_pos h0, h0, ite_self, hM, hX]; done) | (simp only [decI, decR, if_pos h0, h0, ite_self, hM, hX]; rfl))
                   | (have h0 : ¬ decE b = 0 := by rw [hd]; assumption
                      refine ⟨?_, by first | rfl | exact True.intro⟩; simp only [decI, decR, if_neg h0, ite_self]; rw [hd]))
              | trace_state
      · have hs' : decK b = false ∨ (b.length : Int) - 4 < b.getD 3 0 := by
          cases hk : decK b with
          | false => exact .inl rfl
          | true => exact .inr (Decidable.by_contra fun h => hs ⟨hk, h⟩)
        have hd3 : ofOk (decC b) (decF b) = true → (decH b = true → ofMask (decC b) (decF b) = true) → decE b = 1026 := fun h1 h2 => by
          unfold decE
          rw [if_neg h4, if_neg (by rw [h1]; decide), if_neg (fun h => by rw [h2 h.1] at h; exact absurd h.2 (by decide)), if_pos hs']
        repeat' (intro t ht; first | (cases t <;> first | (cases ht; done) | ((try simp only [bn_s] at ht); (try simp only [nd_s] at ht))) | (refine ht ?_ ?_ <;> clear ht) | (refine ht.1 ?_ ?_ <;> clear ht) | (refine ht ?_; clear ht))
        all_goals (try simp only [hL, hP, hE, g0, g1, g2, gl, hF, hH, hS, hK, Bool.decide_eq_true] at *)
        all_goals first
          | exact hp
          | exact (by decide)
          | exact absurd ⟨by assumption, by assumption⟩ hs
          | omega
          | ((try simp only [nd_s, bn_s, mm_s] at *); omega)
          | (have h0 : decE b = 1031 := by unfold decE; rw [if_neg h4, if_pos (by assumption)]
             simp only [decI, decR, h0]; exact ⟨rfl, by first | rfl | exact True.intro⟩)
          | (have h0 : decE b = 1033 := by unfold decE; rw [if_neg h4, if_neg (by simp_all; done), if_pos ⟨by assumption, by assumption⟩]
             simp only [decI, decR, h0]; exact ⟨rfl, by first | rfl | exact True.intro⟩)
          | (have h0 : decE b = 1026 := hd3 (by assumption) (fun h => by first | assumption | exact absurd h (by assumption))
             simp only [decI, decR, h0]; exact ⟨rfl, by first | rfl | exact True.intro⟩)
          | trace_state
  · cases e
end Go.Eng
