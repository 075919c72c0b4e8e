/- Contracts of functions of the given program, told by plain Lean functions. No condition. -/
import Derived.Test.YtmbcgankddgpjaaDoorProg
import Derived.Test.YtmbcgankddgpjaaDoorEArg
import Derived.KernelRfl
import Derived.Test.YtmbcgankddgpjaaDoorM6
namespace Go.Eng
open Go.Proofs
set_option linter.unusedVariables false
set_option linter.unusedSimpArgs false
set_option maxRecDepth 100000
set_option maxHeartbeats 1000000
theorem get2 (b : List Int) : getF [2] b = if b.length < 2 then ([], 1) else ([numL (b.take 2)], 0) := by
  have hr : rightF [2] = true := by decide
  unfold getF
  rw [if_pos hr]
  have a2 : absI 2 = 2 := by decide
  have t2 : Int.toNat 2 = 2 := rfl
  have p2 : (0 : Int) < 2 := by decide
  simp only [getA, a2, t2, if_pos p2]
  by_cases h : b.length < 2
  · rw [if_pos h, if_pos (by omega)]
  · rw [if_neg h, if_neg (by omega)]; rfl
theorem num2_ok {b : List Int} {p sh od : Int} (hp : 0 ≤ p) (h : p + 2 ≤ b.length) : numV 2 b p 0 = numL ((b.drop p.toNat).take 2) ∧ numP 2 b p 0 = p + 2 ∧ numE 2 b p sh od 0 = 0 := by
  have e : getF [2] (b.drop p.toNat) = ([numL ((b.drop p.toNat).take 2)], 0) := by
    rw [get2, if_neg (by rw [List.length_drop]; omega)]
  have es : sizeW [2] = 2 := by decide
  unfold numV numP numE curL curP curE getL getK
  rw [e, es]; exact ⟨rfl, rfl, rfl⟩
theorem num2_sh {b : List Int} {p sh od : Int} (hp : 0 ≤ p ∧ p ≤ b.length) (h : ¬ p + 2 ≤ b.length) : numV 2 b p 0 = 0 ∧ numP 2 b p 0 = p ∧ numE 2 b p sh od 0 = sh := by
  have e : getF [2] (b.drop p.toNat) = ([], 1) := by
    rw [get2, if_pos (by rw [List.length_drop]; omega)]
  unfold numV numP numE curL curP curE getL getK
  rw [e]; exact ⟨rfl, rfl, rfl⟩
theorem num2_no {b : List Int} {p sh od e : Int} (he : e ≠ 0) : numV 2 b p e = 0 ∧ numP 2 b p e = p ∧ numE 2 b p sh od e = e := by
  unfold numV numP numE curL curP curE
  rw [if_neg he, if_neg he, if_neg he]; exact ⟨rfl, rfl, rfl⟩
theorem two_nums {b : List Int} {sh od : Int} (hs : sh ≠ 0) :
    (¬ b.length < 4 → numV 2 b 0 0 = tT b ∧ numP 2 b 0 0 = 2 ∧ numE 2 b 0 sh od 0 = 0 ∧ numV 2 b 2 0 = tN b ∧ numP 2 b 2 0 = 4 ∧ numE 2 b 2 sh od 0 = 0) ∧
    (b.length < 4 → numV 2 b (numP 2 b 0 0) (numE 2 b 0 sh od 0) = 0 ∧ numE 2 b (numP 2 b 0 0) sh od (numE 2 b 0 sh od 0) = sh ∧ 0 ≤ numP 2 b 0 0 ∧ numP 2 b 0 0 ≤ b.length) := by
  constructor
  · intro h
    obtain ⟨a1, a2, a3⟩ := num2_ok (b := b) (p := 0) (sh := sh) (od := od) (by decide) (by omega)
    obtain ⟨b1, b2, b3⟩ := num2_ok (b := b) (p := 2) (sh := sh) (od := od) (by decide) (by omega)
    exact ⟨a1, a2, a3, b1, b2, b3⟩
  · intro h
    by_cases h2 : b.length < 2
    · obtain ⟨a1, a2, a3⟩ := num2_sh (b := b) (p := 0) (sh := sh) (od := od) ⟨by decide, by omega⟩ (by omega)
      rw [a2, a3]
      obtain ⟨b1, b2, b3⟩ := num2_no (b := b) (p := 0) (sh := sh) (od := od) hs
      exact ⟨b1, b3, by decide, by omega⟩
    · obtain ⟨a1, a2, a3⟩ := num2_ok (b := b) (p := 0) (sh := sh) (od := od) (by decide) (by omega)
      rw [a2, a3]
      obtain ⟨b1, b2, b3⟩ := num2_sh (b := b) (p := 0 + 2) (sh := sh) (od := od) ⟨by decide, by omega⟩ (by omega)
      exact ⟨b1, b3, by decide, by omega⟩
theorem neg_row {k p sh : Int} {b : List Int} (hk : 1 ≤ k ∧ k ≤ 7) (hp : 0 ≤ p) (h : p + k ≤ b.length) : curP [0 - k] b p 0 = (if zeroL ((b.drop p.toNat).take k.toNat) = true then p + k else p) ∧ curE [0 - k] b p sh sh 0 = (if zeroL ((b.drop p.toNat).take k.toNat) = true then 0 else sh) := by
  have hr : rightF [0 - k] = true := by
    rw [rightF_t]; refine ⟨by simp, fun n hn => ?_⟩
    simp only [List.mem_cons, List.not_mem_nil, or_false] at hn
    subst hn; omega
  have ha : absI (0 - k) = k := by unfold absI; split <;> omega
  have hl : (b.drop p.toNat).length = b.length - p.toNat := List.length_drop
  have e : getF [0 - k] (b.drop p.toNat) = ([], if zeroL ((b.drop p.toNat).take k.toNat) = true then 0 else 2) := by
    unfold getF; rw [if_pos hr]
    simp only [getA, ha]
    rw [if_neg (by omega), if_neg (by omega)]
    split <;> rfl
  have es : sizeW [0 - k] = k := by
    unfold sizeW; rw [if_pos hr]; simp only [List.map_cons, List.map_nil, List.sum_cons, List.sum_nil, ha]; omega
  unfold curP curE getK
  rw [e, es]
  cases hz : zeroL ((b.drop p.toNat).take k.toNat) with
  | true => exact ⟨rfl, rfl⟩
  | false => exact ⟨rfl, rfl⟩
def mdZ (b : List Int) : Bool := zeroL ((b.drop (tN b).toNat).take (pz (tN b)).toNat)
def mdE (b : List Int) : Int := if b.length < 4 then 1026 else if ¬ tT b = 1 then 1025 else if tN b < 4 ∨ 65528 < tN b ∨ b.length < tN b + pz (tN b) then 1026 else if ¬ (mlG [] (bd b)).2 = 0 then (mlG [] (bd b)).2 else if mdZ b = true then 0 else 1026
def mdL (b : List Int) : List OV := if mdE b = 0 then (mlG [] (bd b)).1 else []
def mdN (b : List Int) : Int := if mdE b = 0 then tN b + pz (tN b) else 0
theorem md_bad {b : List Int} {e : Int} (h : mdE b = e) (h0 : ¬ e = 0) : mdL b = [] ∧ mdN b = 0 := by
  unfold mdL mdN; rw [h, if_neg h0, if_neg h0]; exact ⟨rfl, rfl⟩
def ir_match_Decode : IR :=
(.seq
(.keep [0]
(.reg (oD 2 (.mov (.c (.imm (.cons (.int .i64) (.cons (.int .i64) (.cons .bool (.cons (.int .u64) (.cons (.sl (.int .u8)) (.cons (.sl (.int .u8)) .nil)))))) []))) ::
oD 3 (.mov (cI 0)) ::
oD 4 (.mov (cI 0)) ::
[])))
(.seq
(.reg (oM 12 0 ::
oD 13 (.call false (.f 41) [(.t 12), (cI 1026), (cI 1026)]) ::
oM 5 13 ::
[]))
(.seq
(.keep [0, 5]
(.reg (oM 14 5 ::
oD 15 (.call false (.f 42) [(.t 14), (cI 2)]) ::
oM 16 5 ::
oD 17 (.call false (.f 42) [(.t 16), (cI 2)]) ::
oD 18 (.conv .i64 (.t 17)) ::
oM 6 15 ::
oM 7 18 ::
[])))
(.seq
(.block 0
(.seq
(.keep [0, 5, 6, 7]
(.reg (oM 20 5 ::
oD 21 (.call false (.f 43) [(.t 20)]) ::
oD 22 (.bin .neq (.t 21) (cI 0)) ::
oM 19 22 ::
[])))
(.cond (.t 19)
(.seq
(.keep [5]
(.reg (oM 23 5 ::
oD 24 (.call false (.f 43) [(.t 23)]) ::
oD 2 (.mov (.c (.imm (.cons (.int .i64) (.cons (.int .i64) (.cons .bool (.cons (.int .u64) (.cons (.sl (.int .u8)) (.cons (.sl (.int .u8)) .nil)))))) []))) ::
oD 3 (.mov (cI 0)) ::
oM 4 24 ::
[])))
.ret)
(.seq
(.reg (oM 26 6 ::
oD 27 (.bin .neq (.t 26) (.c (.int .u64 1))) ::
oM 25 27 ::
[]))
(.cond (.t 25)
(.seq
(.keep []
(.reg (oD 2 (.mov (.c (.imm (.cons (.int .i64) (.cons (.int .i64) (.cons .bool (.cons (.int .u64) (.cons (.sl (.int .u8)) (.cons (.sl (.int .u8)) .nil)))))) []))) ::
oD 3 (.mov (cI 0)) ::
oD 4 (.mov (cI 1025)) ::
[])))
.ret)
(.seq
(.keep [0, 5, 7]
(.reg (oM 29 7 ::
oD 30 (.bin .lss (.t 29) (cI 4)) ::
oM 31 30 ::
oF 31 32 (.mov (.t 7)) ::
oF 31 33 (.bin .gtr (.t 32) (cI 65528)) ::
oD 34 (.pick (.t 31) cT (.t 33)) ::
oM 35 34 ::
oF 35 36 (.mov (.t 7)) ::
oF 35 37 (.mov (.t 7)) ::
oF 35 38 (.call false (.f 44) [(.t 37)]) ::
oF 35 39 (.bin .add (.t 36) (.t 38)) ::
oF 35 40 (.mov (.t 0)) ::
oF 35 41 (.len (.t 40)) ::
oF 35 42 (.bin .gtr (.t 39) (.t 41)) ::
oD 43 (.pick (.t 35) cT (.t 42)) ::
oM 28 43 ::
[])))
(.cond (.t 28)
(.seq
(.keep []
(.reg (oD 2 (.mov (.c (.imm (.cons (.int .i64) (.cons (.int .i64) (.cons .bool (.cons (.int .u64) (.cons (.sl (.int .u8)) (.cons (.sl (.int .u8)) .nil)))))) []))) ::
oD 3 (.mov (cI 0)) ::
oD 4 (.mov (cI 1026)) ::
[])))
.ret)
.skip)))))))
(.seq
(.keep [5, 7]
(.reg (oM 45 5 ::
oM 46 7 ::
oD 47 (.bin .sub (.t 46) (cI 4)) ::
oD 48 (.call false (.f 46) [(.t 45), (.t 47)]) ::
oD 49 (.call false (.f 45) [(.t 48)]) ::
oM 44 49 ::
oD 50 (.extract (.t 44) 0) ::
oD 51 (.extract (.t 44) 1) ::
oM 8 50 ::
oM 9 51 ::
[])))
(.seq
(.seq
(.keep [5, 7, 8, 9]
(.reg (oM 52 9 ::
oD 53 (.bin .neq (.t 52) (cI 0)) ::
[])))
(.cond (.t 53)
(.seq
(.reg (oM 54 9 ::
oD 2 (.mov (.c (.imm (.cons (.int .i64) (.cons (.int .i64) (.cons .bool (.cons (.int .u64) (.cons (.sl (.int .u8)) (.cons (.sl (.int .u8)) .nil)))))) []))) ::
oD 3 (.mov (cI 0)) ::
oM 4 54 ::
[]))
.ret)
.skip))
(.seq
(.seq
(.keep [5, 7, 8]
(.reg (oM 55 7 ::
oD 56 (.call false (.f 44) [(.t 55)]) ::
oM 10 56 ::
[])))
(.seq
(.reg (oM 57 10 ::
oD 58 (.bin .gtr (.t 57) (cI 0)) ::
[]))
(.cond (.t 58)
(.keep [5, 8, 10]
(.reg (oM 59 5 ::
oM 60 10 ::
oD 61 (.un .neg (.t 60)) ::
oD 62 (.sliceAll (.int .i64) 1 [(0, 1, (.t 61))]) ::
oD 63 (.call false (.f 47) [(.t 59), (.t 62)]) ::
[])))
.skip)))
(.seq
(.seq
(.reg (oM 64 5 ::
oD 65 (.call false (.f 43) [(.t 64)]) ::
oM 11 65 ::
[]))
(.seq
(.keep [5, 8, 11]
(.reg (oM 66 11 ::
oD 67 (.bin .neq (.t 66) (cI 0)) ::
[])))
(.cond (.t 67)
(.seq
(.reg (oM 68 11 ::
oD 2 (.mov (.c (.imm (.cons (.int .i64) (.cons (.int .i64) (.cons .bool (.cons (.int .u64) (.cons (.sl (.int .u8)) (.cons (.sl (.int .u8)) .nil)))))) []))) ::
oD 3 (.mov (cI 0)) ::
oM 4 68 ::
[]))
.ret)
.skip)))
(.seq
(.keep [5, 8]
(.reg (oM 69 8 ::
oM 70 5 ::
oD 71 (.call false (.f 48) [(.t 70)]) ::
oM 2 69 ::
oM 3 71 ::
oD 4 (.mov (cI 0)) ::
[])))
.ret)))))))))
def rd_match_Decode : List RD := [.tmp 2 true (some (.cons (.int .i64) (.cons (.int .i64) (.cons .bool (.cons (.int .u64) (.cons (.sl (.int .u8)) (.cons (.sl (.int .u8)) .nil))))))), .tmp 3 true none, .tmp 4 true none]
theorem ok_match_Decode : fnOk Tryd.prog Tryd.f17 ir_match_Decode rd_match_Decode = true := by kernel_rfl
def S_match_Decode : List AV → List Obj → Option (Prop × AV)
  | [.imm (.int .u8) b], [] => some ((b.length ≤ 100000000, .tup [.imm (.cons (.int .i64) (.cons (.int .i64) (.cons .bool (.cons (.int .u64) (.cons (.sl (.int .u8)) (.cons (.sl (.int .u8)) .nil)))))) (mdL b), .int .i64 (mdN b), .int .i64 (mdE b)]))
  | _, _ => none
theorem snd_match_Decode : SoundS Tryd.prog 17 (RoF S_match_Decode).sum := by
  refine ro_fn Tryd.func17 ok_match_Decode (env_cons (s := RwF S_cursor_New) snd_cursor_New (env_cons (s := RwF S_cursor_Cursor_Num) snd_cursor_Cursor_Num (env_cons (s := RoF S_cursor_Cursor_Err) snd_cursor_Cursor_Err (env_cons (s := RoF S_match_zeros) snd_match_zeros (env_cons (s := RwF S_cursor_Cursor_Bytes) snd_cursor_Cursor_Bytes (env_cons (s := RoF S_match_list) snd_match_list (env_cons (s := RwF S_cursor_Cursor_Row) snd_cursor_Cursor_Row (env_cons (s := RoF S_cursor_Cursor_At) snd_cursor_Cursor_At (env_nil _))))))))) fun args objs p v e => ?_
  unfold S_match_Decode at e
  split at e
  · rename_i b
    cases e
    refine ⟨rfl, fun hw ho hp => ?_⟩
    change List Int at b
    have hb : ∀ x ∈ (b : List Int), (0 : Int) ≤ x ∧ x ≤ 255 := fun x hx => (hw (.imm (.int .u8) b) (by simp)).1 x hx
    clear hw ho
    have hn2 : 0 ≤ tN b ∧ tN b ≤ 65535 := num2_le (a := 2) hb
    have hz := pz_le hn2.1
    obtain ⟨T1, T2⟩ := two_nums (b := b) (sh := 1026) (od := 1026) (by decide)
    by_cases h4 : b.length < 4
    · obtain ⟨n1, n2, n3, n4⟩ := T2 h4
      have hE : mdE b = 1026 := if_pos h4
      obtain ⟨m1, m2⟩ := md_bad hE (by decide)
      rw [m1, m2, hE]
      repeat' (intro t ht; first | (cases t <;> first | (cases ht; done) | ((try simp only [bn_s] at ht); (try simp only [nd_s] at ht))) | (refine ht ?_ ?_ <;> clear ht) | (refine ht.1 ?_ ?_ <;> clear ht) | (refine ht ?_; clear ht))
      all_goals (try simp only [n1, n2, min_i64, max_i64] at *)
      all_goals first
        | exact True.intro
        | exact ⟨n3, n4, by omega⟩
        | omega
        | exact ⟨by decide, by omega, by omega⟩
        | exact ⟨rfl, by first | rfl | exact True.intro⟩
        | exact ⟨True.intro, True.intro⟩
        | (exfalso; simp_all; done)
        | trace_state
    · obtain ⟨n1, n2, n3, n4, n5, n6⟩ := T1 h4
      by_cases ht : tT b = 1
      · by_cases hr : tN b < 4 ∨ 65528 < tN b ∨ b.length < tN b + pz (tN b)
        · have hE : mdE b = 1026 := by unfold mdE; rw [if_neg h4, if_neg (not_not_intro ht), if_pos hr]
          obtain ⟨m1, m2⟩ := md_bad hE (by decide)
          rw [m1, m2, hE]
          repeat' (intro t ht; first | (cases t <;> first | (cases ht; done) | ((try simp only [bn_s] at ht); (try simp only [nd_s] at ht))) | (refine ht ?_ ?_ <;> clear ht) | (refine ht.1 ?_ ?_ <;> clear ht) | (refine ht ?_; clear ht))
          all_goals (try simp only [n1, n2, n3, n4, n5, n6, ht] at *)
          all_goals first
            | exact True.intro
            | contradiction
            | omega
            | ((try simp only [nd_s, bn_s, mm_s] at *); omega)
            | exact ⟨by decide, by omega, by omega⟩
            | exact ⟨rfl, by first | rfl | exact True.intro⟩
            | exact ⟨True.intro, True.intro⟩
            | (exfalso; omega)
            | trace_state
        · have hE0 : mdE b = if ¬ (mlG [] (bd b)).2 = 0 then (mlG [] (bd b)).2 else if mdZ b = true then 0 else 1026 := by unfold mdE; rw [if_neg h4, if_neg (not_not_intro ht), if_neg hr]
          obtain ⟨k1, k2, k3⟩ := take_ok (n := tN b - 4) (p := 4) (sh := 1026) (b := b) (by omega) (by omega)
          have k4 : (b.take (4 + (tN b - 4)).toNat).drop (4 : Int).toNat = bd b := by unfold bd; rw [show 4 + (tN b - 4) = tN b by omega]; rfl
          rw [k4] at k1
          have k5 : (4 : Int) + (tN b - 4) = tN b := by omega
          rw [k5] at k2
          have hbl := bd_le hb
          by_cases hg : (mlG [] (bd b)).2 = 0
          · rw [if_neg (not_not_intro hg)] at hE0
            by_cases hk : 0 < pz (tN b)
            · obtain ⟨r1, r2⟩ := neg_row (sh := 1026) (b := b) (p := tN b) (k := pz (tN b)) (by omega) (by omega) (by omega)
              have hZ : zeroL ((b.drop (tN b).toNat).take (pz (tN b)).toNat) = mdZ b := rfl
              rw [hZ] at r1 r2
              cases hz0 : mdZ b with
              | true =>
                rw [hz0] at hE0 r1 r2
                rw [if_pos rfl] at r1 r2 hE0
                have m1 : mdL b = (mlG [] (bd b)).1 := if_pos hE0
                have m2 : mdN b = tN b + pz (tN b) := if_pos hE0
                rw [m1, m2, hE0]
                repeat' (intro t ht; first | (cases t <;> first | (cases ht; done) | ((try simp only [bn_s] at ht); (try simp only [nd_s] at ht))) | (refine ht ?_ ?_ <;> clear ht) | (refine ht.1 ?_ ?_ <;> clear ht) | (refine ht ?_; clear ht))
                all_goals (try simp only [n1, n2, n3, n4, n5, n6, ht, k1, k2, k3, hg, r1, r2] at *)
                all_goals first
                  | exact True.intro
                  | contradiction
                  | omega
                  | ((try simp only [nd_s, bn_s, mm_s] at *); omega)
                  | exact ⟨by omega, by omega, by omega, by decide⟩
                  | exact ⟨by omega, by omega, by omega⟩
                  | exact ⟨rfl, by first | rfl | exact True.intro⟩
                  | exact ⟨True.intro, True.intro⟩
                  | (exfalso; omega)
                  | trace_state
              | false =>
                rw [hz0] at hE0 r1 r2
                rw [if_neg (by decide)] at r1 r2 hE0
                obtain ⟨m1, m2⟩ := md_bad hE0 (by decide)
                rw [m1, m2, hE0]
                repeat' (intro t ht; first | (cases t <;> first | (cases ht; done) | ((try simp only [bn_s] at ht); (try simp only [nd_s] at ht))) | (refine ht ?_ ?_ <;> clear ht) | (refine ht.1 ?_ ?_ <;> clear ht) | (refine ht ?_; clear ht))
                all_goals (try simp only [n1, n2, n3, n4, n5, n6, ht, k1, k2, k3, hg, r1, r2] at *)
                all_goals first
                  | exact True.intro
                  | contradiction
                  | omega
                  | ((try simp only [nd_s, bn_s, mm_s] at *); omega)
                  | exact ⟨by omega, by omega, by omega, by decide⟩
                  | exact ⟨by omega, by omega, by omega⟩
                  | exact ⟨rfl, by first | rfl | exact True.intro⟩
                  | exact ⟨True.intro, True.intro⟩
                  | (exfalso; omega)
                  | trace_state
            · have hk0 : pz (tN b) = 0 := by omega
              have hz0 : mdZ b = true := by unfold mdZ; rw [hk0]; rfl
              rw [hz0, if_pos rfl] at hE0
              have m1 : mdL b = (mlG [] (bd b)).1 := if_pos hE0
              have m2 : mdN b = tN b := by have : mdN b = tN b + pz (tN b) := if_pos hE0; omega
              rw [m1, m2, hE0]
              repeat' (intro t ht; first | (cases t <;> first | (cases ht; done) | ((try simp only [bn_s] at ht); (try simp only [nd_s] at ht))) | (refine ht ?_ ?_ <;> clear ht) | (refine ht.1 ?_ ?_ <;> clear ht) | (refine ht ?_; clear ht))
              all_goals (try simp only [n1, n2, n3, n4, n5, n6, ht, k1, k2, k3, hg] at *)
              all_goals first
                | exact True.intro
                | contradiction
                | omega
                | ((try simp only [nd_s, bn_s, mm_s] at *); omega)
                | exact ⟨by omega, by omega, by omega, by decide⟩
                | exact ⟨by omega, by omega, by omega⟩
                | exact ⟨rfl, by first | rfl | exact True.intro⟩
                | exact ⟨True.intro, True.intro⟩
                | (exfalso; omega)
                | trace_state
          · rw [if_pos hg] at hE0
            obtain ⟨m1, m2⟩ := md_bad hE0 hg
            rw [m1, m2, hE0]
            repeat' (intro t ht; first | (cases t <;> first | (cases ht; done) | ((try simp only [bn_s] at ht); (try simp only [nd_s] at ht))) | (refine ht ?_ ?_ <;> clear ht) | (refine ht.1 ?_ ?_ <;> clear ht) | (refine ht ?_; clear ht))
            all_goals (try simp only [n1, n2, n3, n4, n5, n6, ht, k1, k2, k3] at *)
            all_goals first
              | exact True.intro
              | contradiction
              | omega
              | ((try simp only [nd_s, bn_s, mm_s] at *); omega)
              | exact ⟨by omega, by omega, by omega, by decide⟩
              | exact ⟨by omega, by omega, by omega⟩
              | exact ⟨rfl, by first | rfl | exact True.intro⟩
              | exact ⟨True.intro, True.intro⟩
              | (exfalso; omega)
              | trace_state
      · have hE : mdE b = 1025 := by unfold mdE; rw [if_neg h4, if_pos ht]
        obtain ⟨m1, m2⟩ := md_bad hE (by decide)
        rw [m1, m2, hE]
        repeat' (intro t ht; first | (cases t <;> first | (cases ht; done) | ((try simp only [bn_s] at ht); (try simp only [nd_s] at ht))) | (refine ht ?_ ?_ <;> clear ht) | (refine ht.1 ?_ ?_ <;> clear ht) | (refine ht ?_; clear ht))
        all_goals (try simp only [n1, n2, n3, n4, n5, n6] at *)
        all_goals first
          | exact True.intro
          | contradiction
          | omega
          | ((try simp only [nd_s, bn_s, mm_s] at *); omega)
          | exact ⟨by decide, by omega, by omega⟩
          | exact ⟨rfl, by first | rfl | exact True.intro⟩
          | exact ⟨True.intro, True.intro⟩
          | (exfalso; omega)
          | trace_state
  · cases e
end Go.Eng
