/- Parts of the proof: W8, U1, W4. No condition. -/
import Derived.Test.YtcgkajpmcbnmkaaGreatDoorProg
import Derived.Test.YtcgkajpmcbnmkaaGreatDoorWA10
import Derived.KernelRfl
import Derived.Test.YtcgkajpmcbnmkaaGreatDoorWA15
import Derived.Test.YtcgkajpmcbnmkaaGreatDoorWA17
import Derived.Test.YtcgkajpmcbnmkaaGreatDoorWA13
import Derived.Test.YtcgkajpmcbnmkaaGreatDoorWA14
namespace Go.Eng
open Go.Proofs
set_option linter.unusedVariables false
set_option linter.unusedSimpArgs false
set_option maxRecDepth 100000
set_option maxHeartbeats 1000000
def prT (x : Bool) (w y : List Int) : Option VPa := if x = true then (match rxF zs [] y with
  | some t => some ([], t, [], [], [], [], [], [], [], [], ())
  | none => none) else if getK w y = 0 then some (getL w y, [], [], [], [], [], [], [], [], [], ()) else none
def szT (x : Bool) (w : List Int) : Int := if x = true then 1056 else sizeW w
def dT (x : Bool) (w y : List Int) : Option (List VPa) := if _h : 0 < szT x w ∧ y.length ≠ 0 then (match prT x w y with
  | some p => (match dT x w (y.drop (szT x w).toNat) with
    | some l => some (p :: l)
    | none => none)
  | none => none) else some []
termination_by y.length
decreasing_by all_goals (rw [List.length_drop]; omega)
theorem dT_nil {x : Bool} {w y : List Int} (h : y.length = 0) : dT x w y = some [] := by
  unfold dT; rw [dif_neg (fun k => k.2 h)]
theorem dT_none {x : Bool} {w y : List Int} (h : y.length ≠ 0) (h0 : 0 < szT x w) (hp : prT x w y = none) : dT x w y = none := by
  unfold dT; rw [dif_pos ⟨h0, h⟩, hp]
theorem dT_some {x : Bool} {w y : List Int} {p : VPa} (h : y.length ≠ 0) (h0 : 0 < szT x w) (hp : prT x w y = some p) : dT x w y = (match dT x w (y.drop (szT x w).toNat) with
    | some l => some (p :: l)
    | none => none) := by
  rw [dT, dif_pos ⟨h0, h⟩, hp]
def badL (r : Bool) (k : Int) (b : List Int) : Bool := decide ((b.length : Int) > 65519) || (decide (tM r k < 2) && decide ((b.length : Int) ≠ tM r k * szT (tX r k) (tW r k))) || (decide (tM r k = 2) && decide ((b.length : Int).tmod (szT (tX r k) (tW r k)) ≠ 0))
def rdR (r : Bool) (k : Int) (b : List Int) : List VPa × Int := if tK r k = false then ([], 10001) else if badL r k b = true then ([], 263) else match dT (tX r k) (tW r k) b with
  | some l => (l, 0)
  | none => ([], 269)
theorem tM_two {r : Bool} {k : Int} (h : tM r k = 2) : tX r k = false ∧ 0 < sizeW (tW r k) := by
  cases r
  · exfalso; revert h; unfold tM asM; rw [if_neg (by decide)]; repeat' split
    all_goals decide
  · have : k = 3 ∨ k = 4 ∨ k = 5 := by
      revert h; unfold tM anM; rw [if_pos rfl]; repeat' split
      all_goals (intro h; first | omega | (exact absurd h (by decide)))
    rcases this with rfl | rfl | rfl <;> exact ⟨by decide, by decide⟩
theorem tM_rng {r : Bool} {k : Int} : -1 ≤ tM r k ∧ tM r k ≤ 2 := by
  unfold tM
  cases r
  · rw [if_neg (by decide)]; unfold asM; repeat' split
    all_goals decide
  · rw [if_pos rfl]; unfold anM; repeat' split
    all_goals decide
theorem tX_one {r : Bool} {k : Int} (h : tX r k = true) : tM r k = 1 ∧ tW r k = [] := by
  unfold tX at h
  simp only [Bool.and_eq_true, decide_eq_true_eq] at h
  obtain ⟨rfl, rfl⟩ := h
  exact ⟨by decide, by decide⟩
def apT (o : List VPa) (d : Option (List VPa)) : Option (List VPa) := d.map (o ++ ·)
theorem apT_step {x : Bool} {w y : List Int} {o : List VPa} {p : VPa} (h : y.length ≠ 0) (h0 : 0 < szT x w) (hp : prT x w y = some p) : apT o (dT x w y) = apT (o ++ [p]) (dT x w (y.drop (szT x w).toNat)) := by
  rw [dT_some h h0 hp]
  cases dT x w (y.drop (szT x w).toNat) with
  | none => rfl
  | some l => unfold apT; simp
theorem big_of {s : Int} {n c : Nat} (h : 0 ≤ s) (e : (n : Int) = c * s) (hn : 0 < n) : 0 < s ∧ s ≤ n ∧ ∃ d : Nat, (n : Int) - s = d * s := by
  cases c with
  | zero => exfalso; rw [Int.natCast_zero, Int.zero_mul] at e; omega
  | succ d =>
    have h1 : ((d + 1 : Nat) : Int) * s = d * s + s := by rw [Int.natCast_add, Int.add_mul]; simp
    have h2 : 0 ≤ (d : Int) * s := Int.mul_nonneg (by omega) h
    rw [h1] at e
    refine ⟨?_, by omega, d, by omega⟩
    rcases Int.lt_or_eq_of_le h with q | q
    · exact q
    · exfalso; rw [← q, Int.mul_zero] at e; omega
def ir_r27_Read : IR :=
(.seq
(.keep [0, 1, 2]
(.reg [oD 6 (.nilrow YC),
oD 7 (.mov (cI 0))]))
(.seq
(.reg [oM 16 0,
oM 17 1,
oC 18 23 [.t 16, .t 17],
oD 8 (.box [.imm (.int .i64) [], .int .i64 0, .kb false]),
oS 3 8 18])
(.seq
(.seq
(.reg [oA 19 1 8,
oL 20 19,
oB 21 .lss (.t 20) (cI 0)])
(.cond (.t 21)
(.seq
(.keep []
(.reg [oD 6 (.nilrow YC),
oD 7 (.mov (cI 10001))]))
.ret)
.skip))
(.seq
(.keep [2, 8]
(.reg [oA 22 0 8,
oL 23 22,
oC 24 33 [.t 23],
oM 9 24]))
(.seq
(.seq
(.reg [oA 25 2 8,
oL 26 25])
(.cond (.t 26)
(.keep [2, 8]
(.reg [oD 9 (.mov (cI 1056))]))
.skip))
(.seq
(.seq
(.keep [2, 8, 9]
(.reg [oM 27 2,
oE 28 27,
oB 29 .gtr (.t 28) (cI 65519),
oM 30 29,
oF 30 31 (.fieldAddr 1 (.t 8)),
oF 30 32 (.load none (.t 31)),
oF 30 33 (.bin .lss (.t 32) (cI 2)),
oF 30 34 (.mov (.t 33)),
oT 34 35 (.mov (.t 2)),
oT 34 36 (.len (.t 35)),
oT 34 37 (.fieldAddr 1 (.t 8)),
oT 34 38 (.load none (.t 37)),
oT 34 39 (.mov (.t 9)),
oT 34 40 (.bin .mul (.t 38) (.t 39)),
oT 34 41 (.bin .neq (.t 36) (.t 40)),
oF 30 42 (.pick (.t 34) (.t 41) cF),
oP 43 30 cT (.t 42),
oM 44 43,
oF 44 45 (.fieldAddr 1 (.t 8)),
oF 44 46 (.load none (.t 45)),
oF 44 47 (.bin .eql (.t 46) (cI 2)),
oF 44 48 (.mov (.t 47)),
oT 48 49 (.mov (.t 2)),
oT 48 50 (.len (.t 49)),
oT 48 51 (.mov (.t 9)),
oT 48 52 (.bin .rem (.t 50) (.t 51)),
oT 48 53 (.bin .neq (.t 52) (cI 0)),
oF 44 54 (.pick (.t 48) (.t 53) cF),
oP 55 44 cT (.t 54)]))
(.cond (.t 55)
(.seq
(.keep []
(.reg [oD 6 (.nilrow YC),
oD 7 (.mov (cI 263))]))
.ret)
.skip))
(.seq
(.keep [2, 8, 9]
(.reg [oD 10 (.nilrow YC)]))
(.seq
(.block 0
(.loop
(.seq
(.seq
(.keep [2, 8, 9, 10]
(.reg [oM 56 2,
oE 57 56,
oB 58 .gtr (.t 57) (cI 0)]))
(.cond (.t 58)
.skip
(.exit 0)))
(.block 1
(.seq
(.reg [oD 11 (.box [.imm (.int .u64) [], .imm .str [], .imm Y1 [], .imm Y3 [], .imm Y4 [], .imm Y5 [], .imm (.sl (.int .u64)) [], .imm Y8 [], .imm YA [], .imm (.int .u8) []])])
(.seq
(.seq
(.reg [oA 59 2 8,
oL 60 59])
(.cond (.t 60)
(.seq
(.keep [2, 8, 9, 10, 11]
(.reg [oM 62 2,
oC 63 34 [.t 62],
oM 61 63,
oX 64 61 0,
oX 65 61 1,
oM 12 64,
oM 13 65]))
(.seq
(.seq
(.keep [2, 8, 9, 10, 11, 12, 13]
(.reg [oM 66 13,
oD 67 (.un .not (.t 66))]))
(.cond (.t 67)
(.seq
(.reg [oD 6 (.nilrow YC),
oD 7 (.mov (cI 269))])
.ret)
.skip))
(.reg [oM 68 12,
oA 69 1 11,
oS 1 69 68])))
(.seq
(.keep [2, 8, 9, 10, 11]
(.reg [oA 71 0 8,
oL 72 71,
oM 73 2,
oC 74 35 [.t 72, .t 73],
oM 70 74,
oX 75 70 0,
oX 76 70 1,
oM 14 75,
oM 15 76]))
(.seq
(.seq
(.keep [2, 8, 9, 10, 11, 14, 15]
(.reg [oM 77 15,
oB 78 .neq (.t 77) (cI 0)]))
(.cond (.t 78)
(.seq
(.reg [oD 6 (.nilrow YC),
oD 7 (.mov (cI 269))])
.ret)
.skip))
(.reg [oM 79 14,
oA 80 0 11,
oS 1 80 79])))))
(.seq
(.keep [2, 8, 9, 10, 11]
(.reg [oM 81 10,
oK 82 10 11,
oD 83 (.sliceAll YC 1 [(0, 10, (.t 82))]),
oD 84 (.append YC 240 (.t 81) (.t 83)),
oM 10 84]))
(.reg [oM 85 2,
oM 86 9,
oD 87 (.slice 1 (.t 85) (some (.t 86)) none none),
oM 2 87]))))))))
(.seq
(.keep [10]
(.reg [oM 88 10,
oM 6 88,
oD 7 (.mov (cI 0))]))
.ret)))))))))
def rd_r27_Read : List RD := [.tmp 6 true (some YC), .tmp 7 true none]
theorem ok_r27_Read : fnOk Tryz.prog Tryz.f14 ir_r27_Read rd_r27_Read = true := by kernel_rfl
def S_r27_Read : List AV → List Obj → Option (Prop × AV)
  | [.bool rr, .int .i64 k, .imm (.int .u8) b], [] => some ((True, .tup [.imm YC (rdR rr k b).1, .int .i64 (rdR rr k b).2]))
  | _, _ => none
theorem snd_r27_Read : SoundS Tryz.prog 14 (RoF S_r27_Read).sum := by
  refine ro_fn Tryz.func14 ok_r27_Read (env_cons (s := RoF S_r27_Of) snd_r27_Of (env_cons (s := RoF S_r01_Size) snd_r01_Size (env_cons (s := RoF S_r27_texts) snd_r27_texts (env_cons (s := RoF S_r01_Get) snd_r01_Get (env_nil _))))) fun args objs p v e => ?_
  unfold S_r27_Read at e
  split at e
  · rename_i rr k b
    cases e
    refine ⟨rfl, fun hw ho hp => ?_⟩
    change List Int at b
    have hl : b.length ≤ maxLen := (hw (.imm (.int .u8) b) (by simp)).2
    unfold maxLen at hl
    clear hw ho
    have h2 := tM_two (r := rr) (k := k)
    have h3 := tM_rng (r := rr) (k := k)
    have h4 := sizeW_le (tW rr k)
    have hK : tK rr k = decide (0 ≤ tM rr k) := rfl
    have hmul : tM rr k < 2 → 0 ≤ tM rr k → 0 ≤ tM rr k * sizeW (tW rr k) ∧ tM rr k * sizeW (tW rr k) ≤ 4096 := fun q1 q2 => by
      have : tM rr k = 0 ∨ tM rr k = 1 := by omega
      rcases this with q | q <;> rw [q] <;> omega
    have hb65 : ∀ q : (b.length : Int) > 65519, badL rr k b = true := fun q => by unfold badL; rw [decide_eq_true q]; rfl
    cases hx : tX rr k
    · have hsz : szT (tX rr k) (tW rr k) = sizeW (tW rr k) := by unfold szT; rw [hx]; rfl
      rw [hx] at hsz
      have hx' : ¬ tX rr k = true := by rw [hx]; decide
      have hK0 : 0 ≤ tM rr k → ¬ tK rr k = false := fun q => by rw [hK, decide_eq_true q]; decide
      have hgood : ¬ (65519 : Int) < b.length → (tM rr k < 2 → (b.length : Int) = tM rr k * sizeW (tW rr k)) → (tM rr k = 2 → (b.length : Int).tmod (sizeW (tW rr k)) = 0) → badL rr k b = false := fun q1 q2 q3 => by
        unfold badL; rw [hx, hsz]
        simp only [Bool.or_eq_false_iff, Bool.and_eq_false_iff, decide_eq_false_iff_not]
        refine ⟨⟨q1, ?_⟩, ?_⟩
        · by_cases c : tM rr k < 2
          · exact .inr (fun z => z (q2 c))
          · exact .inl c
        · by_cases c : tM rr k = 2
          · exact .inr (fun z => z (q3 c))
          · exact .inl c
      have hcof : (tM rr k < 2 → (b.length : Int) = tM rr k * sizeW (tW rr k)) → (tM rr k = 2 → (b.length : Int).tmod (sizeW (tW rr k)) = 0) → 0 ≤ tM rr k → ∃ c : Nat, (b.length : Int) = c * sizeW (tW rr k) := fun q2 q3 q4 => by
        by_cases c : tM rr k < 2
        · exact ⟨(tM rr k).toNat, by rw [Int.toNat_of_nonneg q4]; exact q2 c⟩
        · refine ⟨((b.length : Int).tdiv (sizeW (tW rr k))).toNat, ?_⟩
          have q := Int.mul_tdiv_add_tmod (b.length : Int) (sizeW (tW rr k))
          rw [q3 (by omega), Int.add_zero, Int.mul_comm] at q
          rw [Int.toNat_of_nonneg (Int.tdiv_nonneg (by omega) h4.1)]; exact q.symm
      repeat' (intro t ht; first | (cases t <;> first | (cases ht; done) | ((try simp only [bn_s] at ht); (try simp only [nd_s] at ht); (try (exfalso; first | contradiction | omega)))) | (refine castG_go ht ?_; clear ht) | (refine ht ?_ ?_ <;> clear ht) | (refine ht.1 ?_ ?_ <;> clear ht) | (refine ht ?_; clear ht))
      all_goals first
        | exact True.intro
        | ((try simp only [nd_s, bn_s, mm_s] at *); omega)
        | (have hm := hmul (by assumption) (by omega)
           exact (show IntKind.i64.min ≤ tM rr k * sizeW (tW rr k) ∧ tM rr k * sizeW (tW rr k) ≤ IntKind.i64.max from by simp only [mm_s]; omega))
        | (have h0 : tK rr k = false := by rw [hK]; exact decide_eq_false (by omega)
           refine ⟨?_, rfl⟩; unfold rdR; rw [if_pos h0])
        | (have h0 : ¬ tK rr k = false := by rw [hK, decide_eq_true (by omega)]; decide
           have hB : badL rr k b = true := by
             unfold badL; rw [hx, hsz]
             first
               | (rw [decide_eq_true (by omega)]; rfl)
               | (rw [decide_eq_true (show tM rr k < 2 by assumption), decide_eq_true (show (b.length : Int) ≠ tM rr k * sizeW (tW rr k) by assumption)]; simp)
               | (rw [decide_eq_true (show tM rr k = 2 by assumption), decide_eq_true (show (b.length : Int).tmod (sizeW (tW rr k)) ≠ 0 by assumption)]; simp)
           refine ⟨?_, rfl⟩; unfold rdR; rw [if_neg h0, if_pos hB])
        | skip
      all_goals have h0 : ¬ tK rr k = false := hK0 (by omega)
      all_goals have hB : badL rr k b = false := hgood (by omega) (fun q => by first | assumption | exact absurd q (by assumption)) (fun q => by first | assumption | exact absurd q (by assumption))
      all_goals have hc : ∃ c : Nat, (b.length : Int) = c * sizeW (tW rr k) := hcof (fun q => by first | assumption | exact absurd q (by assumption)) (fun q => by first | assumption | exact absurd q (by assumption)) (by omega)
      all_goals (intro r h1 h2; clear h1; refine h2 ⟨[2, 8, 9, 10], List VPa × List Int, (fun a => (∃ c : Nat, (a.2.length : Int) = c * (sizeW (tW rr k))) ∧ a.1.length + a.2.length ≤ b.length ∧ apT a.1 (dT false (tW rr k) a.2) = dT false (tW rr k) b), fun a => [.imm (.int .u8) a.2, .ptr 0 0, .int .i64 (sizeW (tW rr k)), .own 1], fun a => [.box [.imm (.int .i64) (tW rr k), .int .i64 (tM rr k), .bool (tX rr k)], .row false YC a.1], fun a => a.2.length, ⟨([], b), ⟨hc, by simp, by unfold apT; cases dT false (tW rr k) b <;> rfl⟩, rfl, rfl⟩, ?_⟩; clear h2)
      all_goals rintro ⟨o, y⟩ ⟨⟨c, hc2⟩, hy, he⟩
      all_goals dsimp only at hc2 hy he
      all_goals have hbig : 0 < y.length → 0 < sizeW (tW rr k) ∧ sizeW (tW rr k) ≤ y.length ∧ ∃ d : Nat, (y.length : Int) - sizeW (tW rr k) = d * sizeW (tW rr k) := big_of h4.1 hc2
      all_goals repeat' (intro t ht; first | (cases t <;> first | (cases ht; done) | ((try simp only [bn_s] at ht); (try simp only [nd_s] at ht); (try (exfalso; first | contradiction | omega)))) | (refine castG_go ht ?_; clear ht) | (refine ht ?_ ?_ <;> clear ht) | (refine ht.1 ?_ ?_ <;> clear ht) | (refine ht ?_; clear ht))
      all_goals first
        | exact True.intro
        | ((try simp only [nd_s, bn_s, mm_s] at *); omega)
        | (have hy0 : y.length = 0 := by omega
           rw [dT_nil hy0] at he
           have e1 : rdR rr k b = (o, 0) := by unfold rdR; rw [if_neg h0, if_neg (by rw [hB]; decide), hx, ← he]; unfold apT; simp
           rw [e1]; exact ⟨rfl, rfl⟩)
        | exact ⟨(show (o.length + 1) * 240 ≤ 140737488355328 by omega), (show o.length + 1 ≤ 140737488355328 by omega)⟩
        | exact ⟨h4.1, (hbig (by omega)).2.1⟩
        | (obtain ⟨z1, z2, z3⟩ := hbig (by omega)
           have hp1 : prT false (tW rr k) y = some (getL (tW rr k) y, [], [], [], [], [], [], [], [], [], ()) := by unfold prT; rw [if_neg (by decide), if_pos (by assumption)]
           have hs := apT_step (o := o) (x := false) (by omega) (by rw [hsz]; exact z1) hp1
           rw [hsz] at hs
           have hdl : ((y.drop (sizeW (tW rr k)).toNat).length : Int) = y.length - sizeW (tW rr k) := by rw [List.length_drop]; omega
           refine ⟨(o ++ [(getL (tW rr k) y, [], [], [], [], [], [], [], [], [], ())], y.drop (sizeW (tW rr k)).toNat), ⟨?_, ?_, hs.symm.trans he⟩, ?_, rfl, rfl⟩
           · dsimp only; rw [hdl]; exact z3
           · dsimp only; rw [List.length_append, List.length_singleton]; omega
           · dsimp only; omega)
        | (obtain ⟨z1, z2, z3⟩ := hbig (by omega)
           have hp1 : prT false (tW rr k) y = none := by unfold prT; rw [if_neg (by decide), if_neg (by assumption)]
           rw [dT_none (by omega) (by rw [hsz]; exact z1) hp1] at he
           have e1 : rdR rr k b = ([], 269) := by unfold rdR; rw [if_neg h0, if_neg (by rw [hB]; decide), hx, ← he]; rfl
           rw [e1]; exact ⟨rfl, rfl⟩)
        | trace_state
    · have hsz : szT true (tW rr k) = 1056 := rfl
      have hx' : ¬ tX rr k = false := by rw [hx]; decide
      obtain ⟨m1, w0⟩ := tX_one hx
      have h0 : ¬ tK rr k = false := by rw [hK, decide_eq_true (by omega)]; decide
      have hgood : ¬ (65519 : Int) < b.length → (b.length : Int) = tM rr k * 1056 → badL rr k b = false := fun q1 q2 => by
        unfold badL; rw [hx, hsz]
        simp only [Bool.or_eq_false_iff, Bool.and_eq_false_iff, decide_eq_false_iff_not]
        exact ⟨⟨q1, .inr (fun z => z q2)⟩, .inl (by omega)⟩
      repeat' (intro t ht; first | (cases t <;> first | (cases ht; done) | ((try simp only [bn_s] at ht); (try simp only [nd_s] at ht); (try (exfalso; first | contradiction | omega)))) | (refine castG_go ht ?_; clear ht) | (refine ht ?_ ?_ <;> clear ht) | (refine ht.1 ?_ ?_ <;> clear ht) | (refine ht ?_; clear ht))
      all_goals first
        | exact True.intro
        | ((try simp only [nd_s, bn_s, mm_s] at *); omega)
        | (exact (show IntKind.i64.min ≤ tM rr k * 1056 ∧ tM rr k * 1056 ≤ IntKind.i64.max from by simp only [mm_s]; omega))
        | (have hB : badL rr k b = true := by
             unfold badL; rw [hx, hsz]
             first
               | (rw [decide_eq_true (show (b.length : Int) > 65519 by omega)]; rfl)
               | (rw [decide_eq_true (show tM rr k < 2 by omega), decide_eq_true (show (b.length : Int) ≠ tM rr k * 1056 by omega)]; simp)
           refine ⟨?_, rfl⟩; unfold rdR; rw [if_neg h0, if_pos hB])
        | skip
      all_goals have hB : badL rr k b = false := hgood (by omega) (by omega)
      all_goals (intro r h1 h2; clear h1; refine h2 ⟨[2, 8, 9, 10], List VPa × List Int, (fun a => (∃ c : Nat, (a.2.length : Int) = c * 1056) ∧ a.1.length + a.2.length ≤ b.length ∧ apT a.1 (dT true (tW rr k) a.2) = dT true (tW rr k) b), fun a => [.imm (.int .u8) a.2, .ptr 0 0, .int .i64 1056, .own 1], fun a => [.box [.imm (.int .i64) (tW rr k), .int .i64 (tM rr k), .bool (tX rr k)], .row false YC a.1], fun a => a.2.length, ⟨([], b), ⟨⟨1, by show (b.length : Int) = _; omega⟩, by simp, by unfold apT; cases dT true (tW rr k) b <;> rfl⟩, rfl, rfl⟩, ?_⟩; clear h2)
      all_goals rintro ⟨o, y⟩ ⟨⟨c, hc2⟩, hy, he⟩
      all_goals dsimp only at hc2 hy he
      all_goals repeat' (intro t ht; first | (cases t <;> first | (cases ht; done) | ((try simp only [bn_s] at ht); (try simp only [nd_s] at ht); (try (exfalso; first | contradiction | omega)))) | (refine castG_go ht ?_; clear ht) | (refine ht ?_ ?_ <;> clear ht) | (refine ht.1 ?_ ?_ <;> clear ht) | (refine ht ?_; clear ht))
      all_goals first
        | exact True.intro
        | ((try simp only [nd_s, bn_s, mm_s] at *); omega)
        | (have hy0 : y.length = 0 := by omega
           rw [dT_nil hy0] at he
           have e1 : rdR rr k b = (o, 0) := by unfold rdR; rw [if_neg h0, if_neg (by rw [hB]; decide), hx, ← he]; unfold apT; simp
           rw [e1]; exact ⟨rfl, rfl⟩)
        | exact ⟨(show (o.length + 1) * 240 ≤ 140737488355328 by omega), (show o.length + 1 ≤ 140737488355328 by omega)⟩
        | exact (show 0 ≤ (1056 : Int) ∧ (1056 : Int) ≤ (y.length : Int) from by omega)
        | exact (show 1056 ≤ y.length by omega)
        | (have hrx : rxF zs [] y = none := by
             revert ht; cases rxF zs [] y <;> intro ht <;> first | rfl | (cases ht; done)
           have hp1 : prT true (tW rr k) y = none := by unfold prT; rw [if_pos rfl, hrx]
           rw [dT_none (by omega) (by rw [hsz]; decide) hp1] at he
           have e1 : rdR rr k b = ([], 269) := by unfold rdR; rw [if_neg h0, if_neg (by rw [hB]; decide), hx, ← he]; rfl
           rw [e1]; exact ⟨rfl, rfl⟩)
        | (have hrx : rxF zs [] y = some ((rxF zs [] y).getD []) := by
             revert ht; cases rxF zs [] y <;> intro ht <;> first | rfl | (cases ht; done)
           have hp1 : prT true (tW rr k) y = some ([], (rxF zs [] y).getD [], [], [], [], [], [], [], [], [], ()) := by unfold prT; rw [if_pos rfl, hrx]; rfl
           have hs := apT_step (o := o) (x := true) (by omega) (by rw [hsz]; decide) hp1
           rw [hsz] at hs
           have hdl : ((y.drop (Int.toNat 1056)).length : Int) = y.length - 1056 := by rw [List.length_drop]; omega
           refine ⟨(o ++ [([], (rxF zs [] y).getD [], [], [], [], [], [], [], [], [], ())], y.drop (Int.toNat 1056)), ⟨?_, ?_, hs.symm.trans he⟩, ?_, rfl, rfl⟩
           · dsimp only; rw [hdl]; exact ⟨c - 1, by omega⟩
           · dsimp only; rw [List.length_append, List.length_singleton]; omega
           · dsimp only; omega)
        | trace_state
  · cases e
end Go.Eng
namespace Go.Eng
open Go.Proofs
set_option linter.unusedVariables false
set_option linter.unusedSimpArgs false
set_option maxRecDepth 100000
set_option maxHeartbeats 1000000
theorem tk_rng {b : List Int} {sh : Int} (hsh : sh ≠ 0) : ∀ (l : List Int) (s : TS), 0 ≤ s.2.1 → s.2.1 ≤ b.length → 0 ≤ (l.foldl (tkS b sh) s).2.1 ∧ (l.foldl (tkS b sh) s).2.1 ≤ b.length
  | [], s, h1, h2 => ⟨h1, h2⟩
  | n :: l, s, h1, h2 => by
    have hn : 0 ≤ (tkS b sh s n).2.1 ∧ (tkS b sh s n).2.1 ≤ b.length := takeP_le (n := n) (e := s.2.2) h1 h2 hsh
    rw [List.foldl_cons]; exact tk_rng hsh l _ hn.1 hn.2
def tpP (x : Bool) (w b : List Int) (p e : Int) : Int := if x = true then (tkF w b p 263 269 e).2.1 else curP w b p e
def tpE (x : Bool) (w b : List Int) (p e : Int) : Int := if x = true then (tkF w b p 263 269 e).2.2 else curE w b p 263 269 e
def tpT (x : Bool) (w b : List Int) (p e : Int) : List (List Int) := if x = true then (tkF w b p 263 269 e).1 else []
theorem tpP_rng {x : Bool} {w b : List Int} {p e : Int} (h1 : 0 ≤ p) (h2 : p ≤ b.length) : 0 ≤ tpP x w b p e ∧ tpP x w b p e ≤ b.length := by
  have h3 := curP_le (w := w) (e := e) h1 h2
  unfold tpP; split
  · exact tk_rng (by decide) zs _ h3.1 h3.2
  · exact h3
theorem tp_step {x : Bool} {w b : List Int} {p : Int} (hx : x = true → w = []) (h1 : 0 ≤ p) (h0 : 0 < szT x w) (hs : szT x w ≤ b.length - p) :
    (∀ q, prT x w (b.drop p.toNat) = some q → (curL w b p 0, tpT x w b p 0, [], [], [], [], [], [], [], [], ()) = q ∧ tpP x w b p 0 = p + szT x w ∧ tpE x w b p 0 = 0) ∧ (prT x w (b.drop p.toNat) = none → tpE x w b p 0 = 269) := by
  cases x with
  | false =>
    have e1 : szT false w = sizeW w := rfl
    have e2 : tpE false w b p 0 = curE w b p 263 269 0 := rfl
    have e3 : tpP false w b p 0 = curP w b p 0 := rfl
    have e4 : tpT false w b p 0 = [] := rfl
    rw [e1] at h0 hs ⊢
    rw [e2, e3, e4]
    have k1 : ¬ getK w (b.drop p.toNat) = 1 := fun h => by
      have := getK_one h; rw [List.length_drop] at this; omega
    unfold prT curE curP curL
    rw [if_neg (by decide), if_pos rfl, if_pos rfl, if_pos rfl, if_neg k1, if_neg k1]
    have k2 := getK_of w (b.drop p.toNat)
    by_cases h : getK w (b.drop p.toNat) = 0
    · rw [if_pos h, if_neg (by omega), if_neg (by omega)]
      exact ⟨fun q hq => (by cases hq; exact ⟨rfl, rfl, rfl⟩), fun hq => (by cases hq)⟩
    · rw [if_neg h, if_pos (by omega), if_pos (by omega)]
      exact ⟨fun q hq => (by cases hq), fun _ => rfl⟩
  | true =>
    obtain rfl := hx rfl
    have e1 : szT true [] = 1056 := rfl
    rw [e1] at hs ⊢
    have e5 : tkF [] b p 263 269 0 = zs.foldl (tkS b 263) ([], ((p.toNat : Nat) : Int), 0) := by
      have n1 : ¬ getK [] (b.drop p.toNat) = 1 := (by decide : ¬ (0 : Int) = 1)
      have n2 : ¬ getK [] (b.drop p.toNat) = 2 := (by decide : ¬ (0 : Int) = 2)
      unfold tkF
      have c1 : curP [] b p 0 = p := by
        unfold curP; rw [if_pos rfl, if_neg n1, if_neg n2]; show p + sizeW [] = p; rw [show sizeW [] = 0 by decide]; omega
      have c2 : curE [] b p 263 269 0 = 0 := by unfold curE; rw [if_pos rfl, if_neg n1, if_neg n2]
      rw [c1, c2, Int.toNat_of_nonneg h1]
    have e2 : tpE true [] b p 0 = (zs.foldl (tkS b 263) ([], ((p.toNat : Nat) : Int), 0)).2.2 := by rw [← e5]; rfl
    have e3 : tpP true [] b p 0 = (zs.foldl (tkS b 263) ([], ((p.toNat : Nat) : Int), 0)).2.1 := by rw [← e5]; rfl
    have e4 : tpT true [] b p 0 = (zs.foldl (tkS b 263) ([], ((p.toNat : Nat) : Int), 0)).1 := by rw [← e5]; rfl
    have e6 : curL [] b p 0 = [] := rfl
    have hsum : zs.sum = 1056 := by decide
    obtain ⟨r1, r2⟩ := tk_run (b := b) (sh := 263) zs [] p.toNat (by decide) (by rw [hsum]; omega)
    rw [e2, e3, e4, e6]
    unfold prT; rw [if_pos rfl]
    cases hr : rxF zs [] (b.drop p.toNat) with
    | none => exact ⟨fun q hq => (by cases hq), fun _ => r2 hr⟩
    | some t =>
      refine ⟨fun q hq => ?_, fun hq => (by cases hq)⟩
      cases hq
      rw [r1 t hr, hsum]
      exact ⟨rfl, by show ((p.toNat : Nat) : Int) + 1056 = p + 1056; omega, rfl⟩
def ir_tally_Read : IR :=
(.seq
(.keep [0, 1, 2]
(.reg [oD 6 (.nilrow YC),
oD 7 (.mov (cI 0))]))
(.seq
(.keep [0, 1, 2]
(.reg [oM 15 0,
oM 16 1,
oC 17 18 [.t 15, .t 16],
oM 14 17,
oX 18 14 0,
oX 19 14 1,
oD 8 (.box [.imm (.int .i64) [], .int .i64 0, .kb false]),
oS 3 8 18,
oM 9 19]))
(.seq
(.seq
(.keep [2, 8, 9]
(.reg [oM 20 9,
oD 21 (.un .not (.t 20))]))
(.cond (.t 21)
(.seq
(.reg [oD 6 (.nilrow YC),
oD 7 (.mov (cI 10001))])
.ret)
.skip))
(.seq
(.reg [oK 22 3 8,
oC 23 28 [.t 22],
oM 10 23])
(.seq
(.seq
(.keep [2, 8, 10]
(.reg [oM 24 2,
oE 25 24,
oB 26 .gtr (.t 25) (cI 65519),
oM 27 26,
oF 27 28 (.fieldAddr 1 (.t 8)),
oF 27 29 (.load none (.t 28)),
oF 27 30 (.bin .lss (.t 29) (cI 2)),
oF 27 31 (.mov (.t 30)),
oT 31 32 (.mov (.t 2)),
oT 31 33 (.len (.t 32)),
oT 31 34 (.fieldAddr 1 (.t 8)),
oT 31 35 (.load none (.t 34)),
oT 31 36 (.mov (.t 10)),
oT 31 37 (.bin .mul (.t 35) (.t 36)),
oT 31 38 (.bin .neq (.t 33) (.t 37)),
oF 27 39 (.pick (.t 31) (.t 38) cF),
oP 40 27 cT (.t 39),
oM 41 40,
oF 41 42 (.fieldAddr 1 (.t 8)),
oF 41 43 (.load none (.t 42)),
oF 41 44 (.bin .eql (.t 43) (cI 2)),
oF 41 45 (.mov (.t 44)),
oT 45 46 (.mov (.t 2)),
oT 45 47 (.len (.t 46)),
oT 45 48 (.mov (.t 10)),
oT 45 49 (.bin .rem (.t 47) (.t 48)),
oT 45 50 (.bin .neq (.t 49) (cI 0)),
oF 41 51 (.pick (.t 45) (.t 50) cF),
oP 52 41 cT (.t 51)]))
(.cond (.t 52)
(.seq
(.keep []
(.reg [oD 6 (.nilrow YC),
oD 7 (.mov (cI 263))]))
.ret)
.skip))
(.seq
(.keep [2, 8]
(.reg [oM 53 2,
oC 54 29 [.t 53, (cI 263), (cI 269)],
oM 11 54]))
(.seq
(.reg [oD 12 (.nilrow YC)])
(.seq
(.block 0
(.loop
(.seq
(.seq
(.keep [8, 11, 12]
(.reg [oM 55 11,
oC 56 30 [.t 55],
oB 57 .gtr (.t 56) (cI 0),
oM 58 57,
oT 58 59 (.mov (.t 11)),
oT 58 60 (.call false (.f 31) [(.t 59)]),
oT 58 61 (.bin .eql (.t 60) (cI 0)),
oP 62 58 (.t 61) cF]))
(.cond (.t 62)
.skip
(.exit 0)))
(.block 1
(.keep [8, 11, 12]
(.reg [oM 63 12,
oK 64 3 8,
oM 65 11,
oC 66 32 [.t 64, .t 65],
oD 67 (.sliceAll YC 1 [(0, 10, (.t 66))]),
oD 68 (.append YC 240 (.t 63) (.t 67)),
oM 12 68]))))))
(.seq
(.seq
(.keep [11, 12]
(.reg [oM 69 11,
oC 70 31 [.t 69],
oM 13 70]))
(.seq
(.reg [oM 71 13,
oB 72 .neq (.t 71) (cI 0)])
(.cond (.t 72)
(.seq
(.reg [oM 73 13,
oD 6 (.nilrow YC),
oM 7 73])
.ret)
.skip)))
(.seq
(.keep [12]
(.reg [oM 74 12,
oM 6 74,
oD 7 (.mov (cI 0))]))
.ret))))))))))
def rd_tally_Read : List RD := [.tmp 6 true (some YC), .tmp 7 true none]
theorem ok_tally_Read : fnOk Tryz.prog Tryz.f13 ir_tally_Read rd_tally_Read = true := by kernel_rfl
def S_tally_Read : List AV → List Obj → Option (Prop × AV)
  | [.bool rr, .int .i64 k, .imm (.int .u8) b], [] => some ((True, .tup [.imm YC (rdR rr k b).1, .int .i64 (rdR rr k b).2]))
  | _, _ => none
theorem snd_tally_Read : SoundS Tryz.prog 13 (RoF S_tally_Read).sum := by
  refine ro_fn Tryz.func13 ok_tally_Read (env_cons (s := RoF S_tally_of) snd_tally_of (env_cons (s := RoF S_tally_shape_size) snd_tally_shape_size (env_cons (s := RwF S_cursor_New) snd_cursor_New (env_cons (s := RoF S_cursor_Cursor_Left) snd_cursor_Cursor_Left (env_cons (s := RoF S_cursor_Cursor_Err) snd_cursor_Cursor_Err (env_cons (s := RwF S_tally_shape_take) snd_tally_shape_take (env_nil _))))))) fun args objs p v e => ?_
  unfold S_tally_Read at e
  split at e
  · rename_i rr k b
    cases e
    refine ⟨rfl, fun hw ho hp => ?_⟩
    change List Int at b
    have hl : b.length ≤ maxLen := (hw (.imm (.int .u8) b) (by simp)).2
    unfold maxLen at hl
    clear hw ho
    have h2 := tM_two (r := rr) (k := k)
    have h3 := tM_rng (r := rr) (k := k)
    have hxw : tX rr k = true → tW rr k = [] := fun h => (tX_one h).2
    have hS : 0 ≤ (if tX rr k = true then (1056 : Int) else sizeW (tW rr k)) ∧ (if tX rr k = true then (1056 : Int) else sizeW (tW rr k)) ≤ 4096 := by
      split
      · exact ⟨by decide, by decide⟩
      · exact sizeW_le _
    have hK : tK rr k = true → 0 ≤ tM rr k ∧ nzM (tM rr k) = tM rr k := fun h => by
      have h' : 0 ≤ tM rr k := of_decide_eq_true h
      exact ⟨h', by unfold nzM; rw [if_neg (by omega)]⟩
    have hmul : tK rr k = true → nzM (tM rr k) < 2 → 0 ≤ nzM (tM rr k) * (if tX rr k = true then (1056 : Int) else sizeW (tW rr k)) ∧ nzM (tM rr k) * (if tX rr k = true then (1056 : Int) else sizeW (tW rr k)) ≤ 4096 := fun q0 q1 => by
      obtain ⟨q2, q3⟩ := hK q0
      rw [q3] at q1 ⊢
      have : tM rr k = 0 ∨ tM rr k = 1 := by omega
      rcases this with q | q <;> rw [q] <;> omega
    have hS2 : tK rr k = true → nzM (tM rr k) = 2 → ¬ (if tX rr k = true then (1056 : Int) else sizeW (tW rr k)) = 0 := fun q0 q1 => by
      obtain ⟨q2, q3⟩ := hK q0
      obtain ⟨z1, z2⟩ := h2 (by omega)
      rw [z1, if_neg (by decide)]; omega
    have hbL : tK rr k = true → badL rr k b = (decide ((b.length : Int) > 65519) || (decide (nzM (tM rr k) < 2) && decide ((b.length : Int) ≠ nzM (tM rr k) * (if tX rr k = true then (1056 : Int) else sizeW (tW rr k)))) || (decide (nzM (tM rr k) = 2) && decide ((b.length : Int).tmod (if tX rr k = true then (1056 : Int) else sizeW (tW rr k)) ≠ 0))) := fun q0 => by
      rw [(hK q0).2]; rfl
    have hgd : tK rr k = true → ¬ (65519 : Int) < b.length → (nzM (tM rr k) < 2 → (b.length : Int) = nzM (tM rr k) * (if tX rr k = true then (1056 : Int) else sizeW (tW rr k))) → (nzM (tM rr k) = 2 → (b.length : Int).tmod (if tX rr k = true then (1056 : Int) else sizeW (tW rr k)) = 0) → badL rr k b = false := fun h0 q1 q2 q3 => by
      rw [hbL h0]; simp only [Bool.or_eq_false_iff, Bool.and_eq_false_iff, decide_eq_false_iff_not]
      refine ⟨⟨by omega, ?_⟩, ?_⟩
      · by_cases c : nzM (tM rr k) < 2
        · exact .inr fun z => z (q2 c)
        · exact .inl c
      · by_cases c : nzM (tM rr k) = 2
        · exact .inr fun z => z (q3 c)
        · exact .inl c
    have hno : tK rr k = false → rdR rr k b = ([], 10001) := fun h => by unfold rdR; rw [if_pos h]
    have hbad : tK rr k = true → badL rr k b = true → rdR rr k b = ([], 263) := fun h h' => by unfold rdR; rw [if_neg (by rw [h]; decide), if_pos h']
    have hgo : tK rr k = true → badL rr k b = false → rdR rr k b = match dT (tX rr k) (tW rr k) b with
      | some l => (l, 0)
      | none => ([], 269) := fun h h' => by unfold rdR; rw [if_neg (by rw [h]; decide), if_neg (by rw [h']; decide)]; try (cases dT (tX rr k) (tW rr k) b <;> rfl)
    have hcof : tK rr k = true → badL rr k b = false → (b.length : Int) ≤ 65519 ∧ ∃ c : Nat, (b.length : Int) - 0 = c * szT (tX rr k) (tW rr k) := fun q0 q1 => by
      rw [hbL q0] at q1
      simp only [Bool.or_eq_false_iff, Bool.and_eq_false_iff, decide_eq_false_iff_not] at q1
      obtain ⟨⟨q1, q2⟩, q3⟩ := q1
      obtain ⟨q4, q5⟩ := hK q0
      refine ⟨by omega, ?_⟩
      show ∃ c : Nat, (b.length : Int) - 0 = c * (if tX rr k = true then (1056 : Int) else sizeW (tW rr k))
      by_cases c : nzM (tM rr k) < 2
      · have q6 : (b.length : Int) = nzM (tM rr k) * (if tX rr k = true then (1056 : Int) else sizeW (tW rr k)) := by
          rcases q2 with q2 | q2
          · exact absurd c q2
          · exact Decidable.of_not_not q2
        exact ⟨(nzM (tM rr k)).toNat, by rw [Int.toNat_of_nonneg (by omega), Int.sub_zero]; exact q6⟩
      · have q6 : (b.length : Int).tmod (if tX rr k = true then (1056 : Int) else sizeW (tW rr k)) = 0 := by
          rcases q3 with q3 | q3
          · exact absurd (show nzM (tM rr k) = 2 by omega) q3
          · exact Decidable.of_not_not q3
        refine ⟨((b.length : Int).tdiv (if tX rr k = true then (1056 : Int) else sizeW (tW rr k))).toNat, ?_⟩
        have q := Int.mul_tdiv_add_tmod (b.length : Int) (if tX rr k = true then (1056 : Int) else sizeW (tW rr k))
        rw [q6, Int.add_zero, Int.mul_comm] at q
        rw [Int.toNat_of_nonneg (Int.tdiv_nonneg (by omega) hS.1), Int.sub_zero]; exact q.symm
    repeat' (intro t ht; first | (cases t <;> first | (cases ht; done) | ((try simp only [bn_s] at ht); (try simp only [nd_s] at ht); (try (exfalso; first | contradiction | omega)))) | (refine castG_go ht ?_; clear ht) | (refine ht ?_ ?_ <;> clear ht) | (refine ht.1 ?_ ?_ <;> clear ht) | (refine ht ?_; clear ht))
    all_goals first
      | exact True.intro
      | ((try simp only [nd_s, bn_s, mm_s] at *); omega)
      | (rw [hno (by assumption)]; exact ⟨rfl, rfl⟩)
      | exact hS2 (by assumption) (by assumption)
      | (have hm := hmul (by assumption) (by assumption)
         exact (show IntKind.i64.min ≤ nzM (tM rr k) * (if tX rr k = true then (1056 : Int) else sizeW (tW rr k)) ∧ nzM (tM rr k) * (if tX rr k = true then (1056 : Int) else sizeW (tW rr k)) ≤ IntKind.i64.max from by simp only [mm_s]; omega))
      | (have hB : badL rr k b = true := by
           rw [hbL (by assumption)]; simp only [Bool.or_eq_true, Bool.and_eq_true, decide_eq_true_eq]
           first
             | (left; left; omega)
             | (left; right; exact ⟨by assumption, by assumption⟩)
             | (right; exact ⟨by assumption, by assumption⟩)
         rw [hbad (by assumption) hB]; exact ⟨rfl, rfl⟩)
      | skip
    all_goals have h0 : tK rr k = true := by assumption
    all_goals have hB : badL rr k b = false := hgd h0 (by omega) (fun q => by first | assumption | exact absurd q (by assumption)) (fun q => by first | assumption | exact absurd q (by assumption) | omega)
    all_goals obtain ⟨hb65, hc0⟩ := hcof h0 hB
    all_goals have hg := hgo h0 hB
    all_goals (intro r h1 h2; clear h1; refine h2 ⟨[8, 11, 12], List VPa × Int × Int, (fun a => (0 ≤ a.2.1 ∧ a.2.1 ≤ b.length) ∧ ((a.2.2 = 0 ∧ a.1.length ≤ a.2.1 ∧ (∃ c : Nat, (b.length : Int) - a.2.1 = c * szT (tX rr k) (tW rr k)) ∧ apT a.1 (dT (tX rr k) (tW rr k) (b.drop a.2.1.toNat)) = dT (tX rr k) (tW rr k) b) ∨ (a.2.2 = 269 ∧ dT (tX rr k) (tW rr k) b = none))), fun a => [.ptr 0 0, .ptr 1 0, .own 2], fun a => [.box [.imm (.int .i64) (tW rr k), .int .i64 (nzM (tM rr k)), .bool (tX rr k)], .box [.imm (.int .u8) b, .int .i64 a.2.1, .int .i64 263, .int .i64 269, .int .i64 a.2.2, .bool true], .row false YC a.1], fun a => if a.2.2 = 0 then ((b.length : Int) - a.2.1).toNat + 1 else 0, ⟨([], 0, 0), ⟨⟨by decide, by simp⟩, .inl ⟨rfl, by decide, hc0, by show apT [] (dT (tX rr k) (tW rr k) b) = _; unfold apT; cases dT (tX rr k) (tW rr k) b <;> rfl⟩⟩, rfl, rfl⟩, ?_⟩; clear h2)
    all_goals rintro ⟨o, p, e⟩ ⟨⟨hp0, hp1⟩, hJ⟩
    all_goals dsimp only at hp0 hp1 hJ
    all_goals rcases hJ with ⟨rfl, ho, hc, he⟩ | ⟨rfl, he⟩
    all_goals repeat' (intro t ht; first | (cases t <;> first | (cases ht; done) | ((try simp only [bn_s] at ht); (try simp only [nd_s] at ht); (try (exfalso; first | contradiction | omega)))) | (refine castG_go ht ?_; clear ht) | (refine ht ?_ ?_ <;> clear ht) | (refine ht.1 ?_ ?_ <;> clear ht) | (refine ht ?_; clear ht))
    all_goals first
      | exact True.intro
      | ((try simp only [nd_s, bn_s, mm_s] at *); omega)
      | exact ⟨hp0, hp1, (by omega : b.length ≤ 140737488355328), (by decide : (263 : Int) ≠ 0)⟩
      | exact ⟨(show (o.length + 1) * 240 ≤ 140737488355328 by omega), (show o.length + 1 ≤ 140737488355328 by omega)⟩
      | (rw [hg, he]; exact ⟨rfl, rfl⟩)
      | (have hd : b.drop p.toNat = [] := List.drop_of_length_le (by omega)
         rw [hd, dT_nil rfl] at he
         rw [hg, ← he]; unfold apT; simp; done)
      | (obtain ⟨c, hc⟩ := hc
         have hSz : 0 ≤ szT (tX rr k) (tW rr k) := hS.1
         have hdl : ((b.drop p.toNat).length : Int) = b.length - p := by rw [List.length_drop]; omega
         obtain ⟨z1, z2, z3⟩ := big_of (n := (b.drop p.toNat).length) (c := c) hSz (by rw [hdl]; exact hc) (by omega)
         obtain ⟨s1, s2⟩ := tp_step (b := b) (p := p) hxw hp0 z1 (by omega)
         have hrg := tpP_rng (x := tX rr k) (w := tW rr k) (e := 0) hp0 hp1
         refine ⟨(o ++ [(curL (tW rr k) b p 0, tpT (tX rr k) (tW rr k) b p 0, [], [], [], [], [], [], [], [], ())], tpP (tX rr k) (tW rr k) b p 0, tpE (tX rr k) (tW rr k) b p 0), ⟨hrg, ?_⟩, ?_, rfl, rfl⟩
         · cases hpr : prT (tX rr k) (tW rr k) (b.drop p.toNat) with
           | none => exact .inr ⟨s2 hpr, by rw [dT_none (by omega) z1 hpr] at he; exact he.symm⟩
           | some q =>
             obtain ⟨t1, t2, t3⟩ := s1 q hpr
             have hs := apT_step (o := o) (by omega) z1 hpr
             refine .inl ⟨t3, ?_, ?_, ?_⟩
             · dsimp only; rw [t2, List.length_append, List.length_singleton]; omega
             · dsimp only; rw [t2]
               obtain ⟨d, hd⟩ := z3
               exact ⟨d, by omega⟩
             · dsimp only; rw [t2, t1]
               rw [show (p + szT (tX rr k) (tW rr k)).toNat = p.toNat + (szT (tX rr k) (tW rr k)).toNat by omega, ← List.drop_drop]
               exact hs.symm.trans he
         · dsimp only
           rw [if_pos rfl]
           cases hpr : prT (tX rr k) (tW rr k) (b.drop p.toNat) with
           | none => rw [s2 hpr, if_neg (by decide)]; omega
           | some q =>
             obtain ⟨t1, t2, t3⟩ := s1 q hpr
             rw [t3, if_pos rfl, t2]; omega)
      | trace_state
  · cases e
end Go.Eng
namespace Go.Eng
open Go.Proofs
set_option linter.unusedVariables false
set_option linter.unusedSimpArgs false
set_option maxRecDepth 100000
set_option maxHeartbeats 1000000
def okTs : List (List Int) → List Int → Bool
  | t :: ts, n :: ns => txF n t && okTs ts ns
  | _, _ => true
def pS (room : Int) : List (List Int) → List Int → List Int → Int → List Int × Int
  | t :: ts, n :: ns, l, e => if txF n t = true then pS room ts ns (bufB (List.replicate (n - t.length).toNat 0) (bufB t l room e) room (bufE t l room e)) (bufE (List.replicate (n - t.length).toNat 0) (bufB t l room e) room (bufE t l room e)) else (l, failE e 10001)
  | _, _, l, e => (l, e)
theorem pS_step {room : Int} {t : List (List Int)} {i : Nat} {l : List Int} {e : Int} (h : i < 5) (ht : t.length = 5) : pS room (t.drop i) (zs.drop i) l e = if txF (zs.getD i 0) (t.getD i []) = true then pS room (t.drop (i + 1)) (zs.drop (i + 1)) (bufB (List.replicate (zs.getD i 0 - (t.getD i []).length).toNat 0) (bufB (t.getD i []) l room e) room (bufE (t.getD i []) l room e)) (bufE (List.replicate (zs.getD i 0 - (t.getD i []).length).toNat 0) (bufB (t.getD i []) l room e) room (bufE (t.getD i []) l room e)) else (l, failE e 10001) := by
  rw [drop_step (show i < t.length by omega) [], drop_step (show i < zs.length from h) 0]; rfl
theorem okTs_step {t : List (List Int)} {i : Nat} (h : i < 5) (ht : t.length = 5) : okTs (t.drop i) (zs.drop i) = (txF (zs.getD i 0) (t.getD i []) && okTs (t.drop (i + 1)) (zs.drop (i + 1))) := by
  rw [drop_step (show i < t.length by omega) [], drop_step (show i < zs.length from h) 0]; rfl
def puB (w : List Int) (x : Bool) (n : List Int) (t : List (List Int)) (l : List Int) (room e : Int) : List Int := if x = true ∧ t.length = 5 then (pS room t zs (rowB w n l room e) (rowE w n l room e)).1 else rowB w n l room e
def puE (w : List Int) (x : Bool) (n : List Int) (t : List (List Int)) (l : List Int) (room e : Int) : Int := if x = true then (if t.length = 5 then (pS room t zs (rowB w n l room e) (rowE w n l room e)).2 else failE (rowE w n l room e) 10001) else rowE w n l room e
def puT (x : Bool) (t : List (List Int)) : List (List Int) := if x = true ∧ t.length = 5 ∧ okTs t zs = true then [] else t
def ir_tally_shape_put : IR :=
(.seq
(.keep [0, 1, 2]
(.reg [oD 3 (.boxv (.t 0))]))
(.seq
(.keep [1, 2, 3]
(.regD [(oM 8 1, []),
(oA 9 0 3, [0]),
(oL 10 9, [1]),
(oM 11 2, [0,0,0]),
(oD 12 (.nilck (.t 11)), [1,0,0]),
(oA 13 0 12, [2,0,0]),
(oL 14 13, [3,0,0]),
(oC 15 47 [.t 8, .t 10, .t 14], [])]))
(.seq
(.keep [1, 2, 3]
(.reg [oM 16 2,
oD 17 (.nilck (.t 16)),
oA 18 0 17,
oN (.store 1 (.t 18) (.c (.imm (.int .u64) [])))]))
(.seq
(.seq
(.reg [oA 19 2 3,
oL 20 19,
oD 21 (.un .not (.t 20))])
(.cond (.t 21)
.ret
.skip))
(.seq
(.seq
(.keep [1, 2]
(.regD [(oM 22 2, []),
(oD 23 (.nilck (.t 22)), []),
(oA 24 1 23, []),
(oL 25 24, []),
(oE 26 25, []),
(oC 27 48 [], [0,0,0,0,0]),
(oD 28 (.mov (cI 5)), [1,0,0,0,0]),
(oB 29 .neq (.t 26) (.t 28), [])]))
(.cond (.t 29)
(.seq
(.keep [1]
(.reg [oM 30 1,
oC 31 49 [.t 30, (cI 10001)]]))
.ret)
.skip))
(.seq
(.seq
(.keep [1, 2]
(.reg [oC 32 48 [],
oD 33 (.mov (cI 0))]))
(.block 0
(.loop
(.seq
(.keep [1, 2, 32, 33]
(.reg [oB 34 .lss (.t 33) (cI 5)]))
(.seq
(.cond (.t 34)
.skip
(.exit 0))
(.seq
(.block 1
(.seq
(.reg [oM 35 33,
oD 36 (.pickI .i64 5 (.t 32) (.t 33)),
oM 6 35,
oM 7 36])
(.seq
(.seq
(.keep [1, 2, 6, 7, 32, 33]
(.reg [oM 37 2,
oD 38 (.nilck (.t 37)),
oA 39 1 38,
oL 40 39,
oM 41 6,
oI 42 1 40 41,
oL 43 42,
oM 44 7,
oC 45 50 [.t 43, .t 44],
oD 46 (.un .not (.t 45))]))
(.cond (.t 46)
(.seq
(.keep [1]
(.reg [oM 47 1,
oC 48 49 [.t 47, (cI 10001)]]))
.ret)
.skip))
(.seq
(.keep [1, 2, 6, 7, 32, 33]
(.reg [oM 49 1,
oM 50 2,
oD 51 (.nilck (.t 50)),
oA 52 1 51,
oL 53 52,
oM 54 6,
oI 55 1 53 54,
oL 56 55,
oD 57 (.s2b (.t 56)),
oC 58 51 [.t 49, .t 57]]))
(.keep [1, 2, 6, 7, 32, 33]
(.reg [oM 59 1,
oM 60 7,
oM 61 2,
oD 62 (.nilck (.t 61)),
oA 63 1 62,
oL 64 63,
oM 65 6,
oI 66 1 64 65,
oL 67 66,
oD 68 (.slen (.t 67)),
oB 69 .sub (.t 60) (.t 68),
oD 70 (.mkrow (.int .u8) 1 (0 : Int) (.t 69) (.t 69)),
oC 71 51 [.t 59, .t 70]]))))))
(.keep [1, 2, 32, 33]
(.reg [oB 72 .add (.t 33) (cI 1),
oM 33 72]))))))))
(.keep [2]
(.reg [oM 73 2,
oD 74 (.nilck (.t 73)),
oA 75 1 74,
oN (.store 1 (.t 75) (.c (.imm .str [])))]))))))))
def rd_tally_shape_put : List RD := []
theorem ok_tally_shape_put : fnOk Tryz.prog Tryz.f20 ir_tally_shape_put rd_tally_shape_put = true := by kernel_rfl
def S_tally_shape_put : List AV → List Obj → Option (Prop × AV × List Obj)
  | [.agg [.imm (.int .i64) w, .int .i64 m, .bool x], .ptr 0 0, .ptr 1 0], [.box [.own 2, .int .i64 room, .mapv 3, .int .i64 e], .box [.imm (.int .u64) n, .imm .str tt, .imm (.cons (.int .i64) (.cons (.int .i64) (.cons .bool (.cons (.int .u64) (.cons (.sl (.int .u8)) (.cons (.sl (.int .u8)) .nil)))))) c1, .imm ty0 c2, .imm ty1 c3, .imm (.cons (.int .i64) (.cons (.int .u64) (.cons (.int .u64) (.cons (.int .u64) (.cons (.sl (.int .u8)) .nil))))) c4, .imm (.sl (.int .u64)) c5, .imm ty2 c6, .imm ty3 c7, .imm (.int .u8) c8], .row false (.int .u8) l, .map sq (.int .i64) (.int .i64) h] => castO ty0 Y3 c2 fun c2 => castO ty1 Y4 c3 fun c3 => castO ty2 Y8 c6 fun c6 => castO ty3 YA c7 fun c7 => some ((0 ≤ room ∧ room ≤ 1000000 ∧ l.length ≤ 1000000, .tup [], [.box [.own 4, .int .i64 room, .mapv 3, .int .i64 (puE w x n tt l room e)], .box [.imm (.int .u64) ([]), .imm .str (puT x tt), .imm Y1 c1, .imm Y3 c2, .imm Y4 c3, .imm Y5 c4, .imm (.sl (.int .u64)) c5, .imm Y8 c6, .imm YA c7, .imm (.int .u8) c8], .dead, .map sq (.int .i64) (.int .i64) h, .row false (.int .u8) (puB w x n tt l room e)]))
  | _, _ => none
theorem snd_tally_shape_put : SoundS Tryz.prog 20 (RwF S_tally_shape_put).sum := by
  refine rw_fn Tryz.func20 ok_tally_shape_put (env_cons (s := RwF S_buffer_Buffer_Row) snd_buffer_Buffer_Row (env_cons (s := RoF S_tally_sizes) snd_tally_sizes (env_cons (s := RwF S_buffer_Buffer_Fail) snd_buffer_Buffer_Fail (env_cons (s := RoF S_tally_text) snd_tally_text (env_cons (s := RwF S_buffer_Buffer_Bytes) snd_buffer_Buffer_Bytes (env_nil _)))))) fun args objs p v o e => ?_
  unfold S_tally_shape_put at e
  split at e
  · rename_i w m x room e n tt c1 ty0 c2 ty1 c3 c4 c5 ty2 c6 ty3 c7 c8 l sq h
    obtain rfl := castO_ty e
    replace e := castO_go e
    obtain rfl := castO_ty e
    replace e := castO_go e
    obtain rfl := castO_ty e
    replace e := castO_go e
    obtain rfl := castO_ty e
    replace e := castO_go e
    cases e
    refine ⟨rfl, fun hw ho hp => ?_⟩
    change List Int at w
    change List Int at n
    change List Int at c8
    change List Int at l
    change List (List Int) at tt
    have ht0 : tt.length ≤ maxLen := (ho _ (List.mem_cons_of_mem _ (List.mem_cons_self ..)) (.imm .str tt) (by simp)).2
    unfold maxLen at ht0
    clear hw ho
    have hl1 : (rowB w n l room e).length ≤ 1000000 := rowB_lim hp.2.2 hp.2.1
    have hzs : zs.length = 5 := rfl
    cases x
    · repeat' (intro t ht; first | (cases t <;> first | (cases ht; done) | ((try simp only [bn_s] at ht); (try simp only [nd_s] at ht); (try (exfalso; first | contradiction | omega)))) | (refine castG_go ht ?_; clear ht) | (refine ht ?_ ?_ <;> clear ht) | (refine ht.1 ?_ ?_ <;> clear ht) | (refine ht ?_; clear ht))
      all_goals first
        | exact True.intro
        | exact hp
        | exact ⟨rfl, rfl⟩
        | trace_state
    · repeat' (intro t ht; first | (cases t <;> first | (cases ht; done) | ((try simp only [bn_s] at ht); (try simp only [nd_s] at ht); (try (exfalso; first | contradiction | omega)))) | (refine castG_go ht ?_; clear ht) | (refine ht ?_ ?_ <;> clear ht) | (refine ht.1 ?_ ?_ <;> clear ht) | (refine ht ?_; clear ht))
      all_goals first
        | exact True.intro
        | exact hp
        | (have h5 : ¬ tt.length = 5 := by omega
           have e1 : puE w true n tt l room e = failE (rowE w n l room e) 10001 := by unfold puE; rw [if_pos rfl, if_neg h5]
           have e2 : puB w true n tt l room e = rowB w n l room e := by unfold puB; rw [if_neg (fun k => h5 k.2)]
           have e3 : puT true tt = tt := by unfold puT; rw [if_neg (fun k => h5 k.2.1)]
           rw [e1, e2, e3]; exact ⟨rfl, rfl⟩)
        | skip
      (intro r h1 h2; clear h1; refine h2 ⟨[1, 2, 32, 33], Nat × List Int × Int, (fun a => a.1 ≤ 5 ∧ a.2.1.length ≤ 1000000 ∧ pS room (tt.drop a.1) (zs.drop a.1) a.2.1 a.2.2 = pS room tt zs (rowB w n l room e) (rowE w n l room e) ∧ okTs (tt.drop a.1) (zs.drop a.1) = okTs tt zs), fun a => [.ptr 0 0, .ptr 1 0, .agg [.int .i64 256, .int .i64 256, .int .i64 256, .int .i64 32, .int .i64 256], .int .i64 a.1], fun a => [.box [.own 4, .int .i64 room, .mapv 3, .int .i64 a.2.2], .box [.imm (.int .u64) ([]), .imm .str tt, .imm Y1 c1, .imm Y3 c2, .imm Y4 c3, .imm Y5 c4, .imm (.sl (.int .u64)) c5, .imm Y8 c6, .imm YA c7, .imm (.int .u8) c8], .dead, .map sq (.int .i64) (.int .i64) h, .row false (.int .u8) a.2.1], fun a => 5 - a.1, ⟨(0, rowB w n l room e, rowE w n l room e), ⟨Nat.zero_le _, hl1, rfl, rfl⟩, rfl, rfl⟩, ?_⟩; clear h2)
      rintro ⟨i, l2, e2⟩ ⟨hi, hl2, he, hk⟩
      dsimp only at hi hl2 he hk
      have h5 : tt.length = 5 := by omega
      have hst := fun (h : i < 5) => pS_step (room := room) (l := l2) (e := e2) h h5
      have hot := fun (h : i < 5) => okTs_step h h5
      have hzz := fun (h : i < 5) => zs_sum h
      have hfin : ∀ l3 e3 bo, pS room tt zs (rowB w n l room e) (rowE w n l room e) = (l3, e3) → okTs tt zs = bo → puE w true n tt l room e = e3 ∧ puB w true n tt l room e = l3 ∧ puT true tt = if bo = true then [] else tt := by
        intro l3 e3 bo q1 q2
        unfold puE puB puT
        rw [if_pos rfl, if_pos h5, if_pos ⟨rfl, h5⟩, q1, q2]
        refine ⟨rfl, rfl, ?_⟩
        cases bo
        · rw [if_neg (fun k => by cases k.2.2), if_neg (by decide)]
        · rw [if_pos ⟨rfl, h5, rfl⟩, if_pos rfl]
      repeat' (intro t ht; first | (cases t <;> first | (cases ht; done) | ((try simp only [bn_s] at ht); (try simp only [nd_s] at ht); (try (exfalso; first | contradiction | omega)))) | (refine castG_go ht ?_; clear ht) | (refine ht ?_ ?_ <;> clear ht) | (refine ht.1 ?_ ?_ <;> clear ht) | (refine ht ?_; clear ht))
      all_goals first
        | exact True.intro
        | ((try simp only [nd_s, bn_s, mm_s] at *); omega)
        | (rw [List.drop_of_length_le (show tt.length ≤ i by omega), List.drop_of_length_le (show zs.length ≤ i by omega)] at he hk
           obtain ⟨e1, e2, e3⟩ := hfin _ _ _ he.symm hk.symm
           rw [e1, e2, e3]; exact ⟨rfl, rfl⟩)
        | (have hx : txF (zs.getD i 0) (tt.getD i []) = false := by assumption
           have hJ := hst (by omega)
           have hK := hot (by omega)
           rw [hx] at hJ hK
           rw [if_neg (by decide)] at hJ
           obtain ⟨e1, e2, e3⟩ := hfin _ _ _ (he.symm.trans hJ) (hk.symm.trans hK)
           rw [e1, e2, e3]; exact ⟨rfl, rfl⟩)
        | (have hx : txF (zs.getD i 0) (tt.getD i []) = true := by assumption
           have hzb := hzz (by omega)
           have hu : ((tt.getD i []).length : Int) < zs.getD i 0 := by
             unfold txF at hx; simp only [Bool.and_eq_true, decide_eq_true_eq] at hx; exact hx.1
           first
             | exact ⟨hp.1, hp.2.1, hl2, (show (tt.getD i []).length ≤ 1000000 by omega)⟩
             | exact ⟨hp.1, hp.2.1, bufB_lim hl2 hp.2.1, (show (List.replicate (zs.getD i 0 - ((tt.getD i []).length : Int)).toNat (0 : Int)).length ≤ 1000000 by rw [List.length_replicate]; omega)⟩
             | exact (show IntKind.i64.min ≤ zs.getD i 0 - ((tt.getD i []).length : Int) ∧ zs.getD i 0 - ((tt.getD i []).length : Int) ≤ IntKind.i64.max from by simp only [mm_s]; omega)
             | exact (show 0 ≤ zs.getD i 0 - ((tt.getD i []).length : Int) ∧ zs.getD i 0 - ((tt.getD i []).length : Int) ≤ zs.getD i 0 - ((tt.getD i []).length : Int) ∧ (zs.getD i 0 - ((tt.getD i []).length : Int)) * ((1 : Nat) : Int) ≤ 140737488355328 ∧ zs.getD i 0 - ((tt.getD i []).length : Int) ≤ 140737488355328 from by omega)
             | (have hJ := hst (by omega)
                have hK := hot (by omega)
                rw [hx] at hJ hK
                rw [if_pos rfl] at hJ
                rw [Bool.true_and] at hK
                exact ⟨(i + 1, _, _), ⟨by dsimp only; omega, bufB_lim (bufB_lim hl2 hp.2.1) hp.2.1, hJ.symm.trans he, hK.symm.trans hk⟩, by dsimp only; omega, rfl, rfl⟩))
        | trace_state
  · cases e
end Go.Eng
