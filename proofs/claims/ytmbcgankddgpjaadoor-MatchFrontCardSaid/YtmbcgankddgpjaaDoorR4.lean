/- Contracts of functions of the given program, told by plain Lean functions. No condition. -/
import Derived.Test.YtmbcgankddgpjaaDoorProg
import Derived.Test.YtmbcgankddgpjaaDoorEArg
import Derived.KernelRfl
import Derived.Test.YtmbcgankddgpjaaDoorR1
namespace Go.Eng
open Go.Proofs
set_option linter.unusedVariables false
set_option linter.unusedSimpArgs false
set_option maxRecDepth 100000
set_option maxHeartbeats 1000000
def putA : List Int → List Int → List Int → Option (List Int)
  | [], _, b => some b
  | n :: r, xs, b => if n < 0 then putA r xs (b ++ bytesN 0 (0 - n)) else match xs with
    | [] => none
    | x :: ys => if n < 8 ∧ x.fdiv (2 ^ (min (8 * n).toNat 64)) ≠ 0 then none else putA r ys (b ++ bytesN x n)
def putF (w xs : List Int) : Option (List Int) := if rightF w = true ∧ countW w = xs.length then putA w xs [] else none
def putB (w xs : List Int) : List Int := (putF w xs).getD []
def putK (w xs : List Int) : Bool := (putF w xs).isSome
theorem sumT_mono {w : List Int} (i : Nat) : ∀ k, sumT oneI w i ≤ sumT oneI w (i + k)
  | 0 => Int.le_refl _
  | k + 1 => by
    have ih := sumT_mono (w := w) i k
    by_cases h : i + k < w.length
    · rw [show i + (k + 1) = (i + k) + 1 by omega, sumT_step oneI h]
      have : 0 ≤ oneI (w.getD (i + k) 0) := by unfold oneI; split <;> omega
      omega
    · rw [sumT_end oneI (show w.length ≤ i + (k + 1) by omega)]
      rwa [sumT_end oneI (show w.length ≤ i + k by omega)] at ih
theorem sumT_lt {w : List Int} {i : Nat} (h : i < w.length) (hp : 0 < w.getD i 0) : sumT oneI w i + 1 ≤ (w.map oneI).sum := by
  have h1 := sumT_mono (w := w) (i + 1) w.length
  rw [sumT_step oneI h, sumT_end oneI (show w.length ≤ i + 1 + w.length by omega)] at h1
  have : oneI (w.getD i 0) = 1 := if_pos hp
  omega
theorem putA_neg {w xs b : List Int} {i k : Nat} (h : i < w.length) (hn : w.getD i 0 < 0) : putA (w.drop i) (xs.drop k) b = putA (w.drop (i + 1)) (xs.drop k) (b ++ bytesN 0 (0 - w.getD i 0)) := by
  rw [drop_step h 0]; exact if_pos hn
theorem putA_none {w xs b : List Int} {i k : Nat} (h : i < w.length) (hn : ¬ w.getD i 0 < 0) (h2 : k < xs.length) (h8 : w.getD i 0 < 8) (hx : ¬ (xs.getD k 0).fdiv (2 ^ (min (8 * w.getD i 0).toNat 64)) = 0) : putA (w.drop i) (xs.drop k) b = none := by
  rw [drop_step h 0, drop_step h2 0]
  show (if w.getD i 0 < 0 then _ else _) = _
  rw [if_neg hn]
  exact if_pos ⟨h8, hx⟩
theorem putA_some {w xs b : List Int} {i k : Nat} (h : i < w.length) (hn : ¬ w.getD i 0 < 0) (h2 : k < xs.length) (h8 : ¬ (w.getD i 0 < 8 ∧ (xs.getD k 0).fdiv (2 ^ (min (8 * w.getD i 0).toNat 64)) ≠ 0)) : putA (w.drop i) (xs.drop k) b = putA (w.drop (i + 1)) (xs.drop (k + 1)) (b ++ bytesN (xs.getD k 0) (w.getD i 0)) := by
  rw [drop_step h 0, drop_step h2 0]
  show (if w.getD i 0 < 0 then _ else _) = _
  rw [if_neg hn]
  exact if_neg h8
theorem getD_drop0 {α : Type} {l : List α} {k : Nat} {d : α} : (l.drop k).getD 0 d = l.getD k d := by
  rw [List.getD_eq_getElem?_getD, List.getElem?_drop, Nat.add_zero, ← List.getD_eq_getElem?_getD]
def ir_row_Put : IR :=
(.seq
(.keep [0, 1]
(.reg (oD 4 (.mov (.c (.imm (.int .u8) []))) ::
oD 5 (.mov cF) ::
[])))
(.seq
(.seq
(.keep [0, 1]
(.reg (oM 10 0 ::
oD 11 (.call false (.f 95) [(.t 10)]) ::
oD 12 (.un .not (.t 11)) ::
oM 13 12 ::
oF 13 14 (.mov (.t 0)) ::
oF 13 15 (.call false (.f 86) [(.t 14)]) ::
oF 13 16 (.mov (.t 1)) ::
oF 13 17 (.len (.t 16)) ::
oF 13 18 (.bin .neq (.t 15) (.t 17)) ::
oD 19 (.pick (.t 13) cT (.t 18)) ::
[])))
(.cond (.t 19)
(.seq
(.keep []
(.reg (oD 4 (.mov (.c (.imm (.int .u8) []))) ::
oD 5 (.mov cF) ::
[])))
.ret)
.skip))
(.seq
(.keep [0, 1]
(.reg (oM 20 0 ::
oD 21 (.call false (.f 73) [(.t 20)]) ::
oD 22 (.mkrow (.int .u8) 1 (0 : Int) (cI 0) (.t 21)) ::
oM 6 22 ::
[])))
(.seq
(.seq
(.reg (oM 23 0 ::
oD 24 (.len (.t 23)) ::
oD 25 (.mov (cI 0)) ::
[]))
(.block 0
(.loop
(.seq
(.keep [1, 6, 23, 24, 25]
(.reg (oD 26 (.bin .lss (.t 25) (.t 24)) ::
[])))
(.seq
(.cond (.t 26)
.skip
(.exit 0))
(.seq
(.block 1
(.seq
(.reg (oD 27 (.indexSl 1 (.t 23) (.t 25)) ::
oL 28 27 ::
oM 8 28 ::
[]))
(.seq
(.seq
(.reg (oM 29 8 ::
oD 30 (.bin .lss (.t 29) (cI 0)) ::
[]))
(.cond (.t 30)
(.seq
(.keep [1, 6, 8, 23, 24, 25]
(.reg (oM 31 6 ::
oM 32 8 ::
oD 33 (.un .neg (.t 32)) ::
oD 34 (.call true (.f 107) [(.t 31), (.c (.int .u64 0)), (.t 33)]) ::
oM 6 34 ::
[])))
(.exit 1))
.skip))
(.seq
(.keep [1, 6, 8, 23, 24, 25]
(.reg (oM 35 1 ::
oD 36 (.indexSl 1 (.t 35) (cI 0)) ::
oL 37 36 ::
oM 9 37 ::
[])))
(.seq
(.seq
(.keep [1, 6, 8, 9, 23, 24, 25]
(.reg (oM 38 8 ::
oD 39 (.bin .lss (.t 38) (cI 8)) ::
oM 40 39 ::
oT 40 41 (.mov (.t 9)) ::
oT 40 42 (.mov (.t 8)) ::
oT 40 43 (.bin .mul (cI 8) (.t 42)) ::
oT 40 44 (.bin .shr (.t 41) (.t 43)) ::
oT 40 45 (.bin .neq (.t 44) (.c (.int .u64 0))) ::
oD 46 (.pick (.t 40) (.t 45) cF) ::
[])))
(.cond (.t 46)
(.seq
(.keep []
(.reg (oD 4 (.mov (.c (.imm (.int .u8) []))) ::
oD 5 (.mov cF) ::
[])))
.ret)
.skip))
(.keep [1, 6, 8, 9, 23, 24, 25]
(.regD ((oM 47 6, []) ::
(oM 48 9, [0]) ::
(oM 49 8, [0, 0]) ::
(oD 50 (.call true (.f 107) [(.t 47), (.t 48), (.t 49)]), []) ::
(oM 51 1, [0, 0, 0, 0]) ::
(oD 52 (.slice 1 (.t 51) (some (cI 1)) none none), [1, 0, 0, 0]) ::
(oM 6 50, [0, 0]) ::
(oM 1 52, []) ::
[]))))))))
(.keep [1, 6, 23, 24, 25]
(.reg (oD 53 (.bin .add (.t 25) (cI 1)) ::
oM 25 53 ::
[])))))))))
(.seq
(.keep [6]
(.reg (oM 54 6 ::
oM 4 54 ::
oD 5 (.mov cT) ::
[])))
.ret)))))
def rd_row_Put : List RD := [.tmp 4 true (some (.int .u8)), .tmp 5 true none]
theorem ok_row_Put : fnOk Tryd.prog Tryd.f87 ir_row_Put rd_row_Put = true := by kernel_rfl
def S_row_Put : List AV → List Obj → Option (Prop × AV)
  | [.imm (.int .i64) w, .imm (.int .u64) xs], [] => some ((True, .tup [.imm (.int .u8) (putB w xs), .bool (putK w xs)]))
  | _, _ => none
theorem snd_row_Put : SoundS Tryd.prog 87 (RoF S_row_Put).sum := by
  refine ro_fn Tryd.func87 ok_row_Put (env_cons (s := RoF S_row_Right) snd_row_Right (env_cons (s := RoF S_row_Count) snd_row_Count (env_cons (s := RoF S_row_Size) snd_row_Size (env_cons (s := RwF S_row_put) snd_row_put (env_nil _))))) fun args objs p v e => ?_
  unfold S_row_Put at e
  split at e
  · rename_i w xs
    cases e
    refine ⟨rfl, fun hw ho hp => ?_⟩
    change List Int at w
    change List Int at xs
    have hx : xs.length ≤ maxLen := (hw (.imm (.int .u64) xs) (by simp)).2
    unfold maxLen at hx
    have hz := sizeW_le w
    repeat' (intro t ht; first | (cases t <;> first | (cases ht; done) | ((try simp only [bn_s] at ht); (try simp only [nd_s] at ht))) | (refine ht ?_ ?_ <;> clear ht) | (refine ht.1 ?_ ?_ <;> clear ht) | (refine ht ?_; clear ht))
    all_goals first
      | exact True.intro
      | (intro r h1 h2; clear h1; refine h2 ⟨[1, 6, 23, 24, 25], Nat × Nat × List Int, (fun a => a.1 ≤ w.length ∧ (a.2.2.length : Int) = sumT absI w a.1 ∧ sumT oneI w a.1 = a.2.1 ∧ putA w xs [] = putA (w.drop a.1) (xs.drop a.2.1) a.2.2), fun a => [.imm (.int .u64) (xs.drop a.2.1), .own 0, .imm (.int .i64) w, .int .i64 w.length, .int .i64 a.1], fun a => [.row false (.int .u8) a.2.2], fun a => w.length - a.1, ⟨(0, 0, []), ⟨Nat.zero_le _, rfl, rfl, rfl⟩, rfl, rfl⟩, ?_⟩; clear h2)
      | ((try simp only [nd_s, bn_s, mm_s] at *); omega)
      | (have hn : ¬ (rightF w = true ∧ countW w = xs.length) := fun h => by simp_all
         refine ⟨?_, rfl⟩; unfold putB putK putF; rw [if_neg hn]; rfl)
    rintro ⟨i, k, b⟩ ⟨hi, hb, hk, he⟩
    dsimp only at hi hb hk he
    have hr : rightF w = true := by assumption
    have hc : countW w = xs.length := by assumption
    have hsum : (w.map oneI).sum = xs.length := by unfold countW at hc; rwa [if_pos hr] at hc
    have hl := (rightF_t.1 hr).1
    have hs := sumT_abs hr i
    have h1 := sumT_one hr i
    repeat' (intro t ht; first | (cases t <;> first | (cases ht; done) | ((try simp only [bn_s] at ht); (try simp only [nd_s] at ht))) | (refine ht ?_ ?_ <;> clear ht) | (refine ht.1 ?_ ?_ <;> clear ht) | (refine ht ?_; clear ht))
    all_goals first
      | ((try simp only [nd_s, bn_s, mm_s] at *); omega)
      | (have hge : w.length ≤ i := by omega
         rw [List.drop_of_length_le hge] at he
         have hf : putF w xs = some b := by unfold putF; rw [if_pos ⟨hr, hc⟩, he]; rfl
         refine ⟨?_, rfl⟩; unfold putB putK; rw [hf]; rfl)
      | skip
    all_goals have hlt : i < w.length := by omega
    all_goals have hkk := (rightF_t.1 hr).2 _ (getD_mem' (α := Int) hlt 0)
    all_goals first
      | ((try simp only [nd_s, bn_s, mm_s] at *); rw [List.length_drop]; omega)
      | ((try simp only [nd_s, bn_s, mm_s] at *); omega)
      | (have hn : w.getD i 0 < 0 := by assumption
         have ha := absI_neg hn
         have h0 : oneI (w.getD i 0) = 0 := if_neg (by omega)
         have hbl := bytesN_len (n := 0) (w := 0 - w.getD i 0) (by omega)
         refine ⟨(i + 1, k, b ++ bytesN 0 (0 - w.getD i 0)), ⟨hlt, ?_, ?_, ?_⟩, by dsimp only; omega, rfl, rfl⟩
         · rw [sumT_step absI hlt, ha]; simp only [List.length_append]; omega
         · rw [sumT_step oneI hlt, h0]; dsimp only; omega
         · rw [he]; exact putA_neg hlt hn)
      | (have hn : ¬ w.getD i 0 < 0 := by assumption
         have hlt2 := sumT_lt (w := w) (i := i) hlt (by omega)
         have h2 : k < xs.length := by omega
         first
           | ((try simp only [nd_s, bn_s, mm_s] at *); rw [List.length_drop]; omega)
           | (have h8 : w.getD i 0 < 8 := by assumption
              have hx : ¬ ((xs.drop k).getD 0 0).fdiv (2 ^ (min (8 * w.getD i 0).toNat 64)) = 0 := by assumption
              rw [getD_drop0] at hx
              have hf : putF w xs = none := by unfold putF; rw [if_pos ⟨hr, hc⟩, he]; exact putA_none hlt hn h2 h8 hx
              refine ⟨?_, rfl⟩; unfold putB putK; rw [hf]; rfl)
           | (have h8 : ¬ (w.getD i 0 < 8 ∧ (xs.getD k 0).fdiv (2 ^ (min (8 * w.getD i 0).toNat 64)) ≠ 0) := fun h => by
                first
                  | (exact absurd h.1 (by assumption))
                  | (have hx : ((xs.drop k).getD 0 0).fdiv (2 ^ (min (8 * w.getD i 0).toNat 64)) = 0 := by assumption
                     rw [getD_drop0] at hx
                     exact h.2 hx)
              have ha := absI_nn hn
              have h0 : oneI (w.getD i 0) = 1 := if_pos (by omega)
              have hbl := bytesN_len (n := xs.getD k 0) (w := w.getD i 0) (by omega)
              refine ⟨(i + 1, k + 1, b ++ bytesN (xs.getD k 0) (w.getD i 0)), ⟨hlt, ?_, ?_, ?_⟩, by dsimp only; omega, ?_, ?_⟩
              · rw [sumT_step absI hlt, ha]; simp only [List.length_append]; omega
              · rw [sumT_step oneI hlt, h0]; dsimp only; omega
              · rw [he]; exact putA_some hlt hn h2 h8
              · dsimp only; rw [← List.drop_drop]; rfl
              · dsimp only; rw [← getD_drop0 (l := xs) (k := k)]; rfl))
      | trace_state
  · cases e
def getA : List Int → List Int → List Int → List Int × Int
  | [], _, o => (o, 0)
  | n :: r, b, o => if (b.length : Int) < absI n then ([], 1) else if 0 < n then getA r (b.drop (absI n).toNat) (o ++ [numL (b.take (absI n).toNat)]) else if zeroL (b.take (absI n).toNat) = true then getA r (b.drop (absI n).toNat) o else ([], 2)
def getF (w b : List Int) : List Int × Int := if rightF w = true then getA w b [] else ([], 2)
def getL (w b : List Int) : List Int := (getF w b).1
def getK (w b : List Int) : Int := (getF w b).2
theorem getA_short {w b o : List Int} {i : Nat} (h : i < w.length) (h1 : (b.length : Int) < absI (w.getD i 0)) : getA (w.drop i) b o = ([], 1) := by
  rw [drop_step h 0]; exact if_pos h1
theorem getA_num {w b o : List Int} {i : Nat} (h : i < w.length) (h1 : ¬ (b.length : Int) < absI (w.getD i 0)) (h2 : 0 < w.getD i 0) : getA (w.drop i) b o = getA (w.drop (i + 1)) (b.drop (absI (w.getD i 0)).toNat) (o ++ [numL (b.take (absI (w.getD i 0)).toNat)]) := by
  rw [drop_step h 0]
  show (if (b.length : Int) < absI (w.getD i 0) then _ else _) = _
  rw [if_neg h1]; exact if_pos h2
theorem getA_zero {w b o : List Int} {i : Nat} (h : i < w.length) (h1 : ¬ (b.length : Int) < absI (w.getD i 0)) (h2 : ¬ 0 < w.getD i 0) (h3 : zeroL (b.take (absI (w.getD i 0)).toNat) = true) : getA (w.drop i) b o = getA (w.drop (i + 1)) (b.drop (absI (w.getD i 0)).toNat) o := by
  rw [drop_step h 0]
  show (if (b.length : Int) < absI (w.getD i 0) then _ else _) = _
  rw [if_neg h1]
  show (if 0 < w.getD i 0 then _ else _) = _
  rw [if_neg h2]; exact if_pos h3
theorem getA_odd {w b o : List Int} {i : Nat} (h : i < w.length) (h1 : ¬ (b.length : Int) < absI (w.getD i 0)) (h2 : ¬ 0 < w.getD i 0) (h3 : zeroL (b.take (absI (w.getD i 0)).toNat) = false) : getA (w.drop i) b o = ([], 2) := by
  rw [drop_step h 0]
  show (if (b.length : Int) < absI (w.getD i 0) then _ else _) = _
  rw [if_neg h1]
  show (if 0 < w.getD i 0 then _ else _) = _
  rw [if_neg h2]; exact if_neg (by rw [h3]; simp)
def ir_row_Get : IR :=
(.seq
(.keep [0, 1]
(.reg (oD 4 (.nilrow (.int .u64)) ::
oD 5 (.mov (cI 0)) ::
[])))
(.seq
(.seq
(.reg (oM 10 0 ::
oD 11 (.call false (.f 95) [(.t 10)]) ::
oD 12 (.un .not (.t 11)) ::
[]))
(.cond (.t 12)
(.seq
(.reg (oD 4 (.nilrow (.int .u64)) ::
oD 5 (.mov (cI 2)) ::
[]))
.ret)
.skip))
(.seq
(.keep [0, 1]
(.reg (oD 6 (.nilrow (.int .u64)) ::
[])))
(.seq
(.seq
(.reg (oM 13 0 ::
oD 14 (.len (.t 13)) ::
oD 15 (.mov (cI 0)) ::
[]))
(.block 0
(.loop
(.seq
(.keep [1, 6, 13, 14, 15]
(.reg (oD 16 (.bin .lss (.t 15) (.t 14)) ::
[])))
(.seq
(.cond (.t 16)
.skip
(.exit 0))
(.seq
(.block 1
(.seq
(.reg (oD 17 (.indexSl 1 (.t 13) (.t 15)) ::
oL 18 17 ::
oM 8 18 ::
[]))
(.seq
(.keep [1, 6, 8, 13, 14, 15]
(.reg (oM 19 8 ::
oM 20 8 ::
oD 21 (.un .neg (.t 20)) ::
oD 22 (.minmax true (.t 19) (.t 21)) ::
oM 9 22 ::
[])))
(.seq
(.block 2
(.seq
(.keep [1, 6, 8, 9, 13, 14, 15]
(.reg (oM 24 1 ::
oD 25 (.len (.t 24)) ::
oM 26 9 ::
oD 27 (.bin .lss (.t 25) (.t 26)) ::
oM 23 27 ::
[])))
(.cond (.t 23)
(.seq
(.reg (oD 4 (.nilrow (.int .u64)) ::
oD 5 (.mov (cI 1)) ::
[]))
.ret)
(.seq
(.reg (oM 29 8 ::
oD 30 (.bin .gtr (.t 29) (cI 0)) ::
oM 28 30 ::
[]))
(.cond (.t 28)
(.keep [1, 6, 9, 13, 14, 15]
(.reg (oM 31 6 ::
oM 32 1 ::
oM 33 9 ::
oD 34 (.slice 1 (.t 32) none (some (.t 33)) none) ::
oD 35 (.call false (.f 96) [(.t 34)]) ::
oD 36 (.sliceAll (.int .u64) 1 [(0, 1, (.t 35))]) ::
oD 37 (.append (.int .u64) 8 (.t 31) (.t 36)) ::
oM 6 37 ::
[])))
(.seq
(.keep [1, 6, 9, 13, 14, 15]
(.reg (oM 39 1 ::
oM 40 9 ::
oD 41 (.slice 1 (.t 39) none (some (.t 40)) none) ::
oD 42 (.call false (.f 97) [(.t 41)]) ::
oD 43 (.un .not (.t 42)) ::
oM 38 43 ::
[])))
(.cond (.t 38)
(.seq
(.keep []
(.reg (oD 4 (.nilrow (.int .u64)) ::
oD 5 (.mov (cI 2)) ::
[])))
.ret)
.skip)))))))
(.keep [1, 6, 9, 13, 14, 15]
(.reg (oM 44 1 ::
oM 45 9 ::
oD 46 (.slice 1 (.t 44) (some (.t 45)) none none) ::
oM 1 46 ::
[])))))))
(.keep [1, 6, 13, 14, 15]
(.reg (oD 47 (.bin .add (.t 15) (cI 1)) ::
oM 15 47 ::
[])))))))))
(.seq
(.keep [6]
(.reg (oM 48 6 ::
oM 4 48 ::
oD 5 (.mov (cI 0)) ::
[])))
.ret)))))
def rd_row_Get : List RD := [.tmp 4 true (some (.int .u64)), .tmp 5 true none]
theorem ok_row_Get : fnOk Tryd.prog Tryd.f72 ir_row_Get rd_row_Get = true := by kernel_rfl
def S_row_Get : List AV → List Obj → Option (Prop × AV)
  | [.imm (.int .i64) w, .imm (.int .u8) b], [] => some ((True, .tup [.imm (.int .u64) (getL w b), .int .i64 (getK w b)]))
  | _, _ => none
theorem snd_row_Get : SoundS Tryd.prog 72 (RoF S_row_Get).sum := by
  refine ro_fn Tryd.func72 ok_row_Get (env_cons (s := RoF S_row_Right) snd_row_Right (env_cons (s := RoF S_row_number) snd_row_number (env_cons (s := RoF S_row_zero) snd_row_zero (env_nil _)))) fun args objs p v e => ?_
  unfold S_row_Get at e
  split at e
  · rename_i w b
    cases e
    refine ⟨rfl, fun hw ho hp => ?_⟩
    change List Int at w
    change List Int at b
    have hb : b.length ≤ maxLen := (hw (.imm (.int .u8) b) (by simp)).2
    unfold maxLen at hb
    repeat' (intro t ht; first | (cases t <;> first | (cases ht; done) | ((try simp only [bn_s] at ht); (try simp only [nd_s] at ht))) | (refine ht ?_ ?_ <;> clear ht) | (refine ht.1 ?_ ?_ <;> clear ht) | (refine ht ?_; clear ht))
    all_goals first
      | exact True.intro
      | (intro r h1 h2; clear h1; refine h2 ⟨[1, 6, 13, 14, 15], Nat × List Int × List Int, (fun a => a.1 ≤ w.length ∧ a.2.1.length ≤ b.length ∧ a.2.2.length ≤ a.1 ∧ getA w b [] = getA (w.drop a.1) a.2.1 a.2.2), fun a => [.imm (.int .u8) a.2.1, .own 0, .imm (.int .i64) w, .int .i64 w.length, .int .i64 a.1], fun a => [.row false (.int .u64) a.2.2], fun a => w.length - a.1, ⟨(0, b, []), ⟨Nat.zero_le _, Nat.le_refl _, Nat.zero_le _, rfl⟩, rfl, rfl⟩, ?_⟩; clear h2)
      | (have hr : rightF w = false := by assumption
         have hf : getF w b = ([], 2) := by unfold getF; rw [hr]; rfl
         refine ⟨?_, rfl⟩; unfold getL getK; rw [hf])
    rintro ⟨i, c, o⟩ ⟨hi, hc, ho, he⟩
    dsimp only at hi hc ho he
    have hr : rightF w = true := by assumption
    have hl := (rightF_t.1 hr).1
    repeat' (intro t ht; first | (cases t <;> first | (cases ht; done) | ((try simp only [bn_s] at ht); (try simp only [nd_s] at ht))) | (refine ht ?_ ?_ <;> clear ht) | (refine ht.1 ?_ ?_ <;> clear ht) | (refine ht ?_; clear ht))
    all_goals first
      | ((try simp only [nd_s, bn_s, mm_s] at *); omega)
      | (have hge : w.length ≤ i := by omega
         rw [List.drop_of_length_le hge] at he
         have hf : getF w b = (o, 0) := by unfold getF; rw [if_pos hr, he]; rfl
         refine ⟨?_, rfl⟩; unfold getL getK; rw [hf]; done)
      | skip
    all_goals have hlt : i < w.length := by omega
    all_goals have hkk := (rightF_t.1 hr).2 _ (getD_mem' (α := Int) hlt 0)
    all_goals have ha := absI_le (n := w.getD i 0)
    all_goals have hA : (if 0 - w.getD i 0 > w.getD i 0 then 0 - w.getD i 0 else w.getD i 0) = absI (w.getD i 0) := rfl
    all_goals first
      | exact True.intro
      | ((try simp only [nd_s, bn_s, mm_s] at *); omega)
      | (have h1 : (c.length : Int) < absI (w.getD i 0) := by assumption
         have hf : getF w b = ([], 1) := by unfold getF; rw [if_pos hr, he]; exact getA_short hlt h1
         refine ⟨?_, rfl⟩; unfold getL getK; rw [hf]; done)
      | (have h1 : ¬ (c.length : Int) < absI (w.getD i 0) := by assumption
         first
           | (have h2 : ¬ 0 < w.getD i 0 := by assumption
              first
                | (have h3 : zeroL (c.take (absI (w.getD i 0)).toNat) = true := by assumption
                   refine ⟨(i + 1, c.drop (absI (w.getD i 0)).toNat, o), ⟨hlt, ?_, by dsimp only; omega, ?_⟩, by dsimp only; omega, rfl, rfl⟩
                   · dsimp only; rw [List.length_drop]; omega
                   · rw [he]; exact getA_zero hlt h1 h2 h3)
                | (have h3 : zeroL (c.take (absI (w.getD i 0)).toNat) = false := by assumption
                   have hf : getF w b = ([], 2) := by unfold getF; rw [if_pos hr, he]; exact getA_odd hlt h1 h2 h3
                   refine ⟨?_, rfl⟩; unfold getL getK; rw [hf]; done))
           | (have h2 : 0 < w.getD i 0 := by assumption
              first
                | (show (c.take (absI (w.getD i 0)).toNat).length ≤ 8; rw [List.length_take]; omega)
                | (simp only [cast_rfl, List.length_append, List.length_cons, List.length_nil]; omega)
                | (refine ⟨(i + 1, c.drop (absI (w.getD i 0)).toNat, o ++ [numL (c.take (absI (w.getD i 0)).toNat)]), ⟨hlt, ?_, ?_, ?_⟩, by dsimp only; omega, rfl, rfl⟩
                   · dsimp only; rw [List.length_drop]; omega
                   · simp only [List.length_append, List.length_cons, List.length_nil]; omega
                   · rw [he]; exact getA_num hlt h1 h2)))
      | trace_state
  · cases e
theorem tkStep {α : Type} {a b : List α} {d : α} {i : Nat} (h : a.take i = b.take i) (hi : i < a.length) (hl : a.length = b.length) (e : a.getD i d = b.getD i d) : a.take (i + 1) = b.take (i + 1) := by
  have hb : i < b.length := by omega
  rw [List.getD_eq_getElem?_getD, List.getD_eq_getElem?_getD, List.getElem?_eq_getElem hi, List.getElem?_eq_getElem hb] at e
  rw [List.take_succ_eq_append_getElem hi, List.take_succ_eq_append_getElem hb, h, show a[i] = b[i] from e]
theorem tkAll {α : Type} {a b : List α} {i : Nat} (h : a.take i = b.take i) (hi : a.length ≤ i) (hl : a.length = b.length) : a = b := by
  rwa [List.take_of_length_le hi, List.take_of_length_le (by omega)] at h
theorem tkNe {α : Type} {a b : List α} {d : α} {i : Nat} (e : ¬ a.getD i d = b.getD i d) : a ≠ b := fun h => e (by rw [h])
def ir_r01_Bytes : IR :=
(.seq
(.keep [0, 1]
(.reg (oD 4 (.mov cF) ::
[])))
(.seq
(.seq
(.keep [0, 1]
(.reg (oM 6 0 ::
oD 7 (.len (.t 6)) ::
oM 8 1 ::
oD 9 (.len (.t 8)) ::
oD 10 (.bin .neq (.t 7) (.t 9)) ::
[])))
(.cond (.t 10)
(.seq
(.reg (oD 4 (.mov cF) ::
[]))
.ret)
.skip))
(.seq
(.seq
(.keep [0, 1]
(.reg (oD 5 (.mov (cI 0)) ::
[])))
(.block 0
(.loop
(.seq
(.seq
(.keep [0, 1, 5]
(.reg (oM 11 5 ::
oM 12 0 ::
oD 13 (.len (.t 12)) ::
oD 14 (.bin .lss (.t 11) (.t 13)) ::
[])))
(.cond (.t 14)
.skip
(.exit 0)))
(.seq
(.block 1
(.seq
(.keep [0, 1, 5]
(.regD ((oM 17 0, []) ::
(oM 18 5, [0]) ::
(oD 19 (.indexSl 1 (.t 17) (.t 18)), []) ::
(oL 20 19, []) ::
(oM 21 1, [0, 0, 0, 0]) ::
(oM 22 5, [0, 0, 0, 0, 0]) ::
(oD 23 (.indexSl 1 (.t 21) (.t 22)), [2, 0, 0, 0]) ::
(oL 24 23, [3, 0, 0, 0]) ::
(oD 25 (.bin .neq (.t 20) (.t 24)), []) ::
[])))
(.cond (.t 25)
(.seq
(.keep []
(.reg (oD 4 (.mov cF) ::
[])))
.ret)
.skip)))
(.keep [0, 1, 5]
(.reg (oM 15 5 ::
oD 16 (.bin .add (.t 15) (cI 1)) ::
oM 5 16 ::
[]))))))))
(.seq
(.keep []
(.reg (oD 4 (.mov cT) ::
[])))
.ret))))
def rd_r01_Bytes : List RD := [.tmp 4 true none]
theorem ok_r01_Bytes : fnOk Tryd.prog Tryd.f20 ir_r01_Bytes rd_r01_Bytes = true := by kernel_rfl
def S_r01_Bytes : List AV → List Obj → Option (Prop × AV)
  | [.imm (.int .u8) a, .imm (.int .u8) b], [] => some ((True, .bool (decide (a = b))))
  | _, _ => none
theorem snd_r01_Bytes : SoundS Tryd.prog 20 (RoF S_r01_Bytes).sum := by
  refine ro_fn Tryd.func20 ok_r01_Bytes (env_nil _) fun args objs p v e => ?_
  unfold S_r01_Bytes at e
  split at e
  · rename_i a b
    cases e
    refine ⟨rfl, fun hw ho hp => ?_⟩
    change List Int at a
    change List Int at b
    have hl : a.length ≤ maxLen := (hw (.imm (.int .u8) a) (by simp)).2
    unfold maxLen at hl
    repeat' (intro t ht; first | (cases t <;> first | (cases ht; done) | ((try simp only [bn_s] at ht); (try simp only [nd_s] at ht))) | (refine ht ?_ ?_ <;> clear ht) | (refine ht.1 ?_ ?_ <;> clear ht) | (refine ht ?_; clear ht))
    all_goals first
      | (have hne : a ≠ b := fun h => (by assumption : ¬ (a.length : Int) = b.length) (by rw [h])
         refine ⟨?_, rfl⟩; rw [decide_eq_false hne]; done)
      | (intro r h1 h2; clear h1; refine h2 ⟨[0, 1, 5], Nat, (fun i => i ≤ a.length ∧ a.take i = b.take i), fun i => [.imm (.int .u8) a, .imm (.int .u8) b, .int .i64 i], fun _ => [], fun i => a.length - i, ⟨0, ⟨Nat.zero_le _, rfl⟩, rfl, rfl⟩, ?_⟩; clear h2)
    rintro i ⟨hi, he⟩
    have hl2 : a.length = b.length := by omega
    repeat' (intro t ht; first | (cases t <;> first | (cases ht; done) | ((try simp only [bn_s] at ht); (try simp only [nd_s] at ht))) | (refine ht ?_ ?_ <;> clear ht) | (refine ht.1 ?_ ?_ <;> clear ht) | (refine ht ?_; clear ht))
    all_goals first
      | ((try simp only [nd_s, bn_s, mm_s] at *); omega)
      | (have hge : a.length ≤ i := by omega
         have e := tkAll he hge hl2
         refine ⟨?_, rfl⟩; rw [decide_eq_true e]; done)
      | (have hne : a ≠ b := tkNe (d := 0) (i := i) (by assumption)
         refine ⟨?_, rfl⟩; rw [decide_eq_false hne]; done)
      | (have hlt : i < a.length := by omega
         exact ⟨i + 1, ⟨hlt, tkStep he hlt hl2 (d := 0) (by assumption)⟩, by (try simp only [nd_s, bn_s, mm_s] at *); omega, rfl, rfl⟩)
      | trace_state
  · cases e
theorem mkz_len {n : Nat} : (List.replicate n (0 : Int)).length = n := List.length_replicate
/-- Bytes of which those behind are told already. -/
def numR (n w : Int) (i : Nat) : List Int := List.replicate (w.toNat - i) 0 ++ (bytesN n w).drop (w.toNat - i)
theorem numR_zero {n w : Int} : numR n w 0 = List.replicate w.toNat 0 := by
  unfold numR bytesN; rw [List.drop_of_length_le (by rw [bytesT_len]; omega)]; simp
theorem numR_len {n w : Int} {i : Nat} (h : i ≤ w.toNat) : (numR n w i).length = w.toNat := by
  unfold numR bytesN; rw [List.length_append, List.length_replicate, List.length_drop, bytesT_len]; omega
theorem bytesN_getD {n w : Int} {j : Nat} (h : j < w.toNat) : (bytesN n w).getD j 0 = byteAt n w j := by
  unfold bytesN bytesT
  rw [List.getD_eq_getElem?_getD, List.getElem?_map, List.getElem?_range h]; rfl
theorem numR_step {n w : Int} {i : Nat} (h : i < w.toNat) : (numR n w i).set (w.toNat - 1 - i) (byteAt n w (w.toNat - 1 - i : Nat)) = numR n w (i + 1) := by
  have h1 : w.toNat - i = (w.toNat - (i + 1)) + 1 := by omega
  have hbl : (bytesN n w).length = w.toNat := by unfold bytesN; rw [bytesT_len]
  unfold numR
  rw [h1, List.replicate_succ', List.append_assoc, List.set_append_right _ _ (by rw [List.length_replicate]; omega), List.length_replicate, show w.toNat - 1 - i - (w.toNat - (i + 1)) = 0 by omega]
  rw [drop_step (l := bytesN n w) (i := w.toNat - (i + 1)) (by omega) 0, bytesN_getD (by omega), show w.toNat - (i + 1) = w.toNat - 1 - i by omega]
  rfl
end Go.Eng
