/- Parts of the proof: K4, K5, K6. No condition. -/
import Derived.Test.YtbenhegdnaoalaaGreatDoorProg
import Derived.Test.YtbenhegdnaoalaaGreatDoorWA10
import Derived.KernelRfl
import Derived.Test.YtbenhegdnaoalaaGreatDoorWA22
namespace Go.Eng
open Go.Proofs
set_option linter.unusedVariables false
set_option linter.unusedSimpArgs false
set_option maxRecDepth 100000
set_option maxHeartbeats 1000000
theorem get5_no {y : List Int} (h : y.length < 16) : getK w5 y ≠ 0 := by
  have hr : rightF w5 = true := by decide
  have a4 : absI 4 = 4 := by decide
  have a4' : absI (-4) = 4 := by decide
  have a2 : absI 2 = 2 := by decide
  have t2 : Int.toNat 2 = 2 := rfl
  have t4 : Int.toNat 4 = 4 := rfl
  have p2 : (0 : Int) < 2 := by decide
  have p4 : (0 : Int) < 4 := by decide
  unfold getK getF
  rw [if_pos hr]
  unfold w5
  simp only [getA, a4, a4', a2, t2, t4, if_pos p2, if_pos p4, List.length_drop, List.drop_drop]
  by_cases h1 : (y.length : Int) < 2
  · rw [if_pos h1]; decide
  · rw [if_neg h1]
    by_cases h2 : ((y.length - 2 : Nat) : Int) < 2
    · rw [if_pos h2]; decide
    · rw [if_neg h2]
      by_cases h3 : ((y.length - (2 + 2) : Nat) : Int) < 4
      · rw [if_pos h3]; decide
      · rw [if_neg h3]
        by_cases h4 : ((y.length - (2 + 2 + 4) : Nat) : Int) < 4
        · rw [if_pos h4]; decide
        · rw [if_neg h4, if_pos (by omega)]; decide
theorem own5 {y : List Int} (h : 16 ≤ y.length) : curL w5 (y.take 16) 0 0 = (if zeroL ((y.drop 12).take 4) = true then [numL (y.take 2), numL ((y.drop 2).take 2), numL ((y.drop 4).take 4), numL ((y.drop 8).take 4)] else []) ∧ curE w5 (y.take 16) 0 1549 1549 0 = (if zeroL ((y.drop 12).take 4) = true then 0 else 1549) := by
  have hl : 16 ≤ (y.take 16).length := by rw [List.length_take]; omega
  have g := get5 hl
  have e1 : ((y.take 16).drop 12).take 4 = (y.drop 12).take 4 := by rw [List.drop_take, List.take_take]; rfl
  have e2 : (y.take 16).take 2 = y.take 2 := by rw [List.take_take]; rfl
  have e3 : ((y.take 16).drop 2).take 2 = (y.drop 2).take 2 := by rw [List.drop_take, List.take_take]; rfl
  have e4 : ((y.take 16).drop 4).take 4 = (y.drop 4).take 4 := by rw [List.drop_take, List.take_take]; rfl
  have e5 : ((y.take 16).drop 8).take 4 = (y.drop 8).take 4 := by rw [List.drop_take, List.take_take]; rfl
  rw [e1, e2, e3, e4, e5] at g
  have d0 : (y.take 16).drop (0 : Int).toNat = y.take 16 := rfl
  unfold curL curE getL getK
  rw [d0, g]
  cases zeroL ((y.drop 12).take 4) <;> exact ⟨rfl, rfl⟩
theorem own5_no {y : List Int} (h : y.length < 16) : curL w5 y 0 0 = [] ∧ curE w5 y 0 1549 1549 0 = 1549 := by
  have g := get5_no h
  have d0 : y.drop (0 : Int).toNat = y := rfl
  have hk : getK w5 y = 1 ∨ getK w5 y = 2 := by
    rcases getK_of w5 y with h | h | h
    · exact absurd h g
    · exact .inl h
    · exact .inr h
  have hL : getL w5 y = [] := getL_bad g
  unfold curL curE
  rw [d0, if_pos rfl, if_pos rfl, hL]
  refine ⟨rfl, ?_⟩
  rcases hk with hk | hk
  · rw [if_pos hk]
  · rw [hk]; rfl
def ir_bucket_take : IR :=
(.seq
(.keep [0]
(.reg (oD 2 (.box [.int .u64 0, .int .u64 0, .int .u64 0, .imm (.cons (.int .i64) (.cons (.int .u64) (.cons (.int .u64) (.cons (.cons (.int .i64) (.cons (.int .i64) (.cons .bool (.cons (.int .u64) (.cons (.sl (.int .u8)) (.cons (.sl (.int .u8)) .nil)))))) (.cons (.sl (.int .u8)) .nil))))) []]) ::
[])))
(.seq
(.reg (oM 7 0 ::
oD 8 (.call false (.f 32) [(.t 7)]) ::
oM 3 8 ::
[]))
(.seq
(.keep [0, 2, 3]
(.reg (oM 9 0 ::
oM 10 3 ::
oD 11 (.minmax false (cI 16) (.t 10)) ::
oD 12 (.call false (.f 29) [(.t 9), (.t 11)]) ::
oD 13 (.call false (.f 28) [(.t 12), (cI 1549), (cI 1549)]) ::
oM 4 13 ::
[])))
(.seq
(.reg (oM 14 4 ::
oD 15 (.sliceAll (.int .i64) 5 [(0, 1, (cI 2)), (1, 1, (cI 2)), (2, 1, (cI 4)), (3, 1, (cI 4)), (4, 1, (cI (-4)))]) ::
oD 16 (.call false (.f 131) [(.t 14), (.t 15)]) ::
oM 5 16 ::
[]))
(.seq
(.seq
(.keep [0, 2, 3, 4, 5]
(.reg (oM 17 5 ::
oD 18 (.len (.t 17)) ::
oD 19 (.bin .eql (.t 18) (cI 0)) ::
[])))
(.cond (.t 19)
(.seq
(.reg (oM 20 0 ::
oM 21 4 ::
oD 22 (.call false (.f 31) [(.t 21)]) ::
oD 23 (.call false (.f 74) [(.t 20), (.t 22)]) ::
[]))
(.seq
(.keep [2]
(.reg (oD 24 (.load (some 4) (.t 2)) ::
oN (.store 4 (.t 2) (.t 24)) ::
[])))
.ret))
.skip))
(.seq
(.keep [0, 2, 3, 5]
(.reg (oM 25 5 ::
oD 26 (.indexSl 1 (.t 25) (cI 0)) ::
oL 27 26 ::
oD 28 (.conv .i64 (.t 27)) ::
oM 6 28 ::
[])))
(.seq
(.seq
(.keep [0, 2, 3, 5, 6]
(.reg (oM 29 6 ::
oD 30 (.bin .lss (.t 29) (cI 16)) ::
oM 31 30 ::
oF 31 32 (.mov (.t 6)) ::
oF 31 33 (.bin .rem (.t 32) (cI 8)) ::
oF 31 34 (.bin .neq (.t 33) (cI 0)) ::
oD 35 (.pick (.t 31) cT (.t 34)) ::
oM 36 35 ::
oF 36 37 (.mov (.t 6)) ::
oF 36 38 (.mov (.t 3)) ::
oF 36 39 (.bin .gtr (.t 37) (.t 38)) ::
oD 40 (.pick (.t 36) cT (.t 39)) ::
[])))
(.cond (.t 40)
(.seq
(.keep [0, 2]
(.reg (oM 41 0 ::
oD 42 (.call false (.f 74) [(.t 41), (cI 1549)]) ::
[])))
(.seq
(.reg (oD 43 (.load (some 4) (.t 2)) ::
oN (.store 4 (.t 2) (.t 43)) ::
[]))
.ret))
.skip))
(.seq
(.keep [0, 2, 5, 6]
(.regD ((oM 44 5, []) ::
(oD 45 (.indexSl 1 (.t 44) (cI 1)), []) ::
(oL 46 45, []) ::
(oM 47 5, [0, 0, 0]) ::
(oD 48 (.indexSl 1 (.t 47) (cI 2)), [1, 0, 0]) ::
(oL 49 48, [2, 0, 0]) ::
(oM 50 5, [0, 0, 0, 0, 0, 0]) ::
(oD 51 (.indexSl 1 (.t 50) (cI 3)), [1, 0, 0, 0, 0, 0]) ::
(oL 52 51, [2, 0, 0, 0, 0, 0]) ::
(oM 53 0, [0, 0, 0, 0, 0, 0, 0, 0, 0]) ::
(oM 54 6, [0, 0, 0, 0, 0, 0, 0, 0, 0, 0]) ::
(oD 55 (.bin .sub (.t 54) (cI 16)), [1, 0, 0, 0, 0, 0, 0, 0, 0, 0]) ::
(oD 56 (.call false (.f 136) [(.t 53), (.t 55)]), [3, 0, 0, 0, 0, 0, 0, 0, 0]) ::
(oD 57 (.buildAll 4 [(0, 1, (.t 46)), (1, 1, (.t 49)), (2, 1, (.t 52)), (3, 1, (.t 56))]), []) ::
(oN (.store 4 (.t 2) (.t 57)), []) ::
[])))
.ret))))))))
def rd_bucket_take : List RD := [.cell 2 (some 4) true []]
theorem ok_bucket_take : fnOk Tryz.prog Tryz.f73 ir_bucket_take rd_bucket_take = true := by kernel_rfl
def S_bucket_take : List AV → List Obj → Option (Prop × AV × List Obj)
  | [.ptr 0 0], [.box [.imm (.int .u8) b, .int .i64 p, .int .i64 sh, .int .i64 od, .int .i64 e, .bool true]] => some ((0 ≤ p ∧ p ≤ b.length ∧ b.length ≤ 100000 ∧ sh ≠ 0 ∧ e = 0, .agg [.int .u64 ((btV (b.drop p.toNat)).1), .int .u64 ((btV (b.drop p.toNat)).2.1), .int .u64 ((btV (b.drop p.toNat)).2.2.1), .imm (.cons (.int .i64) (.cons (.int .u64) (.cons (.int .u64) (.cons (.cons (.int .i64) (.cons (.int .i64) (.cons .bool (.cons (.int .u64) (.cons (.sl (.int .u8)) (.cons (.sl (.int .u8)) .nil)))))) (.cons (.sl (.int .u8)) .nil))))) ((btV (b.drop p.toNat)).2.2.2.1)], [.box [.imm (.int .u8) b, .int .i64 (p + btP (b.drop p.toNat)), .int .i64 sh, .int .i64 od, .int .i64 (btE (b.drop p.toNat)), .bool true]]))
  | _, _ => none
theorem snd_bucket_take : SoundS Tryz.prog 73 (RwF S_bucket_take).sum := by
  refine rw_fn Tryz.func73 ok_bucket_take (env_cons (s := RoF S_cursor_Cursor_Left) snd_cursor_Cursor_Left (env_cons (s := RwF S_cursor_Cursor_Bytes) snd_cursor_Cursor_Bytes (env_cons (s := RwF S_cursor_New) snd_cursor_New (env_cons (s := RwF S_cursor_Cursor_Row) snd_cursor_Cursor_Row (env_cons (s := RoF S_cursor_Cursor_Err) snd_cursor_Cursor_Err (env_cons (s := RwF S_cursor_Cursor_Fail) snd_cursor_Cursor_Fail (env_cons (s := RwF S_acts_Take) snd_acts_Take (env_nil _)))))))) fun args objs p v o e => ?_
  unfold S_bucket_take at e
  split at e
  · rename_i b p sh od e
    cases e
    refine ⟨rfl, fun hw ho hp => ?_⟩
    change List Int at b
    have hb : ∀ x ∈ b, 0 ≤ x ∧ x ≤ 255 := fun x hx => (ho _ (List.mem_singleton.2 rfl) (.imm (.int .u8) b) (by simp)).1 x hx
    clear hw ho
    obtain ⟨hp0, hp1, hp2, hp3, rfl⟩ := hp
    obtain ⟨p, rfl⟩ := Int.eq_ofNat_of_zero_le hp0
    rw [Int.toNat_natCast]
    have hyl : (b.drop p).length = b.length - p := List.length_drop
    have f1 : failE 0 1549 = 1549 := rfl
    by_cases hs : (b.length : Int) - p < 16
    · have hm : (if (b.length : Int) - p < 16 then (b.length : Int) - p else 16) = (b.length : Int) - p := if_pos hs
      obtain ⟨k1, k2, k3⟩ := take_ok (n := (b.length : Int) - p) (p := p) (sh := sh) (b := b) (by omega) (by omega)
      have k1' : takeL ((b.length : Int) - p) b p sh 0 = b.drop p := by rw [k1, Int.toNat_natCast, List.take_of_length_le (by omega)]
      obtain ⟨o1, o2⟩ := own5_no (y := b.drop p) (by omega)
      unfold w5 at o1 o2
      have hK : btK (b.drop p) = false := by unfold btK; rw [decide_eq_false (show ¬ 16 ≤ (b.drop p).length by omega)]; rfl
      have e1 : btV (b.drop p) = (0, 0, 0, [], ()) := if_neg (by rw [hK]; decide)
      have e2 : btE (b.drop p) = 1549 := if_neg (by rw [hK]; decide)
      have e3 : btP (b.drop p) = (b.length : Int) - p := by unfold btP; rw [hK, if_neg (by decide), if_neg (by omega)]; omega
      rw [e1, e2, e3]
      repeat' (intro t ht; first | (cases t <;> first | (cases ht; done) | ((try simp only [bn_s] at ht); (try simp only [nd_s] at ht))) | (refine ht ?_ ?_ <;> clear ht) | (refine ht.1 ?_ ?_ <;> clear ht) | (refine ht ?_; clear ht))
      all_goals (try simp only [hm, k1', k2, k3, o1, o2, f1] at *)
      all_goals first
        | exact True.intro
        | contradiction
        | exact ⟨hp0, hp1⟩
        | exact ⟨hp0, hp1, by omega, hp3⟩
        | omega
        | exact ⟨rfl, by first | rfl | exact True.intro⟩
        | (refine ⟨Int.le_refl _, ?_, ?_⟩ <;> omega)
        | (constructor <;> omega)
        | ((try simp only [nd_s, bn_s, mm_s] at *); omega)
        | (exfalso; omega)
        | (exfalso; simp_all; done)
        | trace_state
    · have hm : (if (b.length : Int) - p < 16 then (b.length : Int) - p else 16) = 16 := if_neg hs
      obtain ⟨k1, k2, k3⟩ := take_ok (n := 16) (p := p) (sh := sh) (b := b) (by omega) (by omega)
      have k1' : takeL 16 b p sh 0 = (b.drop p).take 16 := by rw [k1, Int.toNat_natCast, List.drop_take]; congr 1; omega
      obtain ⟨o1, o2⟩ := own5 (y := b.drop p) (by omega)
      unfold w5 at o1 o2
      have hx16 : ((b.drop p).take 16).length = 16 := by rw [List.length_take]; omega
      have hN := numL_le ((b.drop p).take 2) fun x hx => hb x (List.mem_of_mem_drop (List.mem_of_mem_take hx))
      have hN2 : (256 : Int) ^ ((b.drop p).take 2).length = 65536 := by rw [List.length_take, hyl, show min 2 (b.length - p) = 2 by omega]; rfl
      rw [hN2] at hN
      have hNe : numL ((b.drop p).take 2) = btN (b.drop p) := rfl
      cases hz : zeroL (((b.drop p).drop 12).take 4) with
      | false =>
        rw [hz] at o1 o2
        rw [if_neg (by decide)] at o1 o2
        have hK : btK (b.drop p) = false := by unfold btK; rw [hz]; simp
        have e1 : btV (b.drop p) = (0, 0, 0, [], ()) := if_neg (by rw [hK]; decide)
        have e2 : btE (b.drop p) = 1549 := if_neg (by rw [hK]; decide)
        have e3 : btP (b.drop p) = 16 := by unfold btP; rw [hK, if_neg (by decide), if_pos (by omega)]
        rw [e1, e2, e3]
        repeat' (intro t ht; first | (cases t <;> first | (cases ht; done) | ((try simp only [bn_s] at ht); (try simp only [nd_s] at ht))) | (refine ht ?_ ?_ <;> clear ht) | (refine ht.1 ?_ ?_ <;> clear ht) | (refine ht ?_; clear ht))
        all_goals (try simp only [hm, k1', k2, k3, o1, o2, f1] at *)
        all_goals first
          | exact True.intro
          | contradiction
          | (rw [hx16]; decide)
          | (refine ⟨Int.le_refl _, ?_, ?_⟩ <;> rw [hx16] <;> decide)
          | exact ⟨hp0, hp1⟩
          | exact ⟨hp0, hp1, by omega, hp3⟩
          | omega
          | exact ⟨rfl, by first | rfl | exact True.intro⟩
          | (refine ⟨Int.le_refl _, ?_, ?_⟩ <;> omega)
          | (constructor <;> omega)
          | ((try simp only [nd_s, bn_s, mm_s] at *); omega)
          | (exfalso; omega)
          | (exfalso; simp_all; done)
          | trace_state
      | true =>
        rw [hz, if_pos rfl] at o1
        rw [hz, if_pos rfl] at o2
        rw [hNe] at o1 hN
        have g0 : ∀ (a c d e z : Int), [a, c, d, e].getD (Int.toNat 0) z = a := fun _ _ _ _ _ => rfl
        have g1 : ∀ (a c d e z : Int), [a, c, d, e].getD (Int.toNat 1) z = c := fun _ _ _ _ _ => rfl
        have g2 : ∀ (a c d e z : Int), [a, c, d, e].getD (Int.toNat 2) z = d := fun _ _ _ _ _ => rfl
        have g3 : ∀ (a c d e z : Int), [a, c, d, e].getD (Int.toNat 3) z = e := fun _ _ _ _ _ => rfl
        have gl : ∀ (a c d e : Int), ((([a, c, d, e]).length : Nat) : Int) = 4 := fun _ _ _ _ => rfl
        cases hK : btK (b.drop p) with
        | false =>
          have e1 : btV (b.drop p) = (0, 0, 0, [], ()) := if_neg (by rw [hK]; decide)
          have e2 : btE (b.drop p) = 1549 := if_neg (by rw [hK]; decide)
          have e3 : btP (b.drop p) = 16 := by unfold btP; rw [hK, if_neg (by decide), if_pos (by omega)]
          have hno : ¬ (16 ≤ btN (b.drop p) ∧ (btN (b.drop p)).tmod 8 = 0 ∧ btN (b.drop p) ≤ (b.drop p).length) := fun h => by
            unfold btK at hK
            rw [hz, decide_eq_true (show 16 ≤ (b.drop p).length by omega), decide_eq_true h.1, decide_eq_true h.2.1, decide_eq_true h.2.2] at hK
            cases hK
          rw [hyl] at hno
          rw [e1, e2, e3]
          repeat' (intro t ht; first | (cases t <;> first | (cases ht; done) | ((try simp only [bn_s] at ht); (try simp only [nd_s] at ht))) | (refine ht ?_ ?_ <;> clear ht) | (refine ht.1 ?_ ?_ <;> clear ht) | (refine ht ?_; clear ht))
          all_goals (try simp only [hm, k1', k2, k3, o1, o2, f1, g0, g1, g2, g3, gl, nd_s] at *)
          all_goals first
            | exact True.intro
            | contradiction
            | (rw [hx16]; decide)
            | (refine ⟨Int.le_refl _, ?_, ?_⟩ <;> rw [hx16] <;> decide)
            | exact ⟨hp0, hp1⟩
            | exact ⟨hp0, hp1, by omega, hp3⟩
            | omega
            | exact ⟨rfl, by first | rfl | exact True.intro⟩
            | (refine ⟨Int.le_refl _, ?_, ?_⟩ <;> omega)
            | (constructor <;> omega)
            | ((try simp only [nd_s, bn_s, mm_s] at *); omega)
            | (exfalso; omega)
            | (exfalso; simp_all; done)
            | (exfalso; apply hno; refine ⟨?_, ?_, ?_⟩ <;> first | assumption | omega)
            | trace_state
        | true =>
          obtain ⟨q1, q2, q3, q4, q5⟩ := btK_parts hK
          rw [hyl] at q5
          obtain ⟨t1, t2, t3⟩ := take_ok (n := btN (b.drop p) - 16) (p := (p : Int) + 16) (sh := sh) (b := b) (by omega) (by omega)
          have t1' : takeL (btN (b.drop p) - 16) b ((p : Int) + 16) sh 0 = btA (b.drop p) := by
            rw [t1]; unfold btA
            rw [show ((p : Int) + 16 + (btN (b.drop p) - 16)).toNat = p + (btN (b.drop p)).toNat by omega, show ((p : Int) + 16).toNat = p + 16 by omega, ← List.drop_drop, List.drop_take, List.drop_take, List.drop_take]
            congr 2; omega
          have e1 : btV (b.drop p) = (numL (((b.drop p).drop 2).take 2), numL (((b.drop p).drop 4).take 4), numL (((b.drop p).drop 8).take 4), adL (btA (b.drop p)), ()) := if_pos hK
          have e2 : btE (b.drop p) = adE (btA (b.drop p)) := if_pos hK
          have e3 : btP (b.drop p) = btN (b.drop p) := if_pos hK
          have a1 : atL (btN (b.drop p) - 16) b ((p : Int) + 16) sh 0 = adL (btA (b.drop p)) := by unfold atL; rw [t3, if_pos rfl, t1']
          have a2 : atE (btN (b.drop p) - 16) b ((p : Int) + 16) sh 0 = adE (btA (b.drop p)) := by unfold atE; rw [t3, if_pos rfl, t1']
          have a3 : (p : Int) + 16 + (btN (b.drop p) - 16) = p + btN (b.drop p) := by omega
          rw [e1, e2, e3]
          repeat' (intro t ht; first | (cases t <;> first | (cases ht; done) | ((try simp only [bn_s] at ht); (try simp only [nd_s] at ht))) | (refine ht ?_ ?_ <;> clear ht) | (refine ht.1 ?_ ?_ <;> clear ht) | (refine ht ?_; clear ht))
          all_goals (try simp only [hm, k1', k2, k3, o1, o2, f1, g0, g1, g2, g3, gl, nd_s, a1, a2, t2, a3] at *)
          all_goals first
            | exact True.intro
            | contradiction
            | (rw [hx16]; decide)
            | (refine ⟨Int.le_refl _, ?_, ?_⟩ <;> rw [hx16] <;> decide)
            | exact ⟨hp0, hp1⟩
            | exact ⟨hp0, hp1, by omega, hp3⟩
            | omega
            | exact ⟨rfl, by first | rfl | exact True.intro⟩
            | (refine ⟨Int.le_refl _, ?_, ?_⟩ <;> omega)
            | (constructor <;> omega)
            | ((try simp only [nd_s, bn_s, mm_s] at *); omega)
            | (exfalso; omega)
            | (exfalso; simp_all; done)
            | trace_state
  · cases e
def ir_bucket_Take : IR :=
(.seq
(.keep [0]
(.reg (oD 2 (.nilrow (.cons (.int .u64) (.cons (.int .u64) (.cons (.int .u64) (.cons (.sl (.cons (.int .i64) (.cons (.int .u64) (.cons (.int .u64) (.cons (.cons (.int .i64) (.cons (.int .i64) (.cons .bool (.cons (.int .u64) (.cons (.sl (.int .u8)) (.cons (.sl (.int .u8)) .nil)))))) (.cons (.sl (.int .u8)) .nil)))))) .nil))))) ::
[])))
(.seq
(.reg (oM 4 0 ::
oD 5 (.call false (.f 32) [(.t 4)]) ::
oM 3 5 ::
[]))
(.seq
(.block 0
(.loop
(.seq
(.seq
(.keep [0, 2, 3]
(.reg (oM 6 0 ::
oD 7 (.call false (.f 31) [(.t 6)]) ::
oD 8 (.bin .eql (.t 7) (cI 0)) ::
oM 9 8 ::
oT 9 10 (.mov (.t 0)) ::
oT 9 11 (.call false (.f 32) [(.t 10)]) ::
oT 9 12 (.bin .gtr (.t 11) (cI 0)) ::
oD 13 (.pick (.t 9) (.t 12) cF) ::
[])))
(.cond (.t 13)
.skip
(.exit 0)))
(.block 1
(.keep [0, 2, 3]
(.reg (oM 14 2 ::
oM 15 0 ::
oD 16 (.call false (.f 73) [(.t 15)]) ::
oD 17 (.sliceAll (.cons (.int .u64) (.cons (.int .u64) (.cons (.int .u64) (.cons (.sl (.cons (.int .i64) (.cons (.int .u64) (.cons (.int .u64) (.cons (.cons (.int .i64) (.cons (.int .i64) (.cons .bool (.cons (.int .u64) (.cons (.sl (.int .u8)) (.cons (.sl (.int .u8)) .nil)))))) (.cons (.sl (.int .u8)) .nil)))))) .nil)))) 1 [(0, 4, (.t 16))]) ::
oD 18 (.append (.cons (.int .u64) (.cons (.int .u64) (.cons (.int .u64) (.cons (.sl (.cons (.int .i64) (.cons (.int .u64) (.cons (.int .u64) (.cons (.cons (.int .i64) (.cons (.int .i64) (.cons .bool (.cons (.int .u64) (.cons (.sl (.int .u8)) (.cons (.sl (.int .u8)) .nil)))))) (.cons (.sl (.int .u8)) .nil)))))) .nil)))) 48 (.t 14) (.t 17)) ::
oM 2 18 ::
[])))))))
(.seq
(.seq
(.keep [0, 2, 3]
(.reg (oM 19 3 ::
oD 20 (.bin .gtr (.t 19) (cI 65528)) ::
[])))
(.cond (.t 20)
(.reg (oM 21 0 ::
oD 22 (.call false (.f 74) [(.t 21), (cI 1549)]) ::
[]))
.skip))
(.seq
(.seq
(.reg (oM 23 0 ::
oD 24 (.call false (.f 31) [(.t 23)]) ::
oD 25 (.bin .neq (.t 24) (cI 0)) ::
[]))
(.cond (.t 25)
(.seq
(.keep []
(.reg (oD 2 (.nilrow (.cons (.int .u64) (.cons (.int .u64) (.cons (.int .u64) (.cons (.sl (.cons (.int .i64) (.cons (.int .u64) (.cons (.int .u64) (.cons (.cons (.int .i64) (.cons (.int .i64) (.cons .bool (.cons (.int .u64) (.cons (.sl (.int .u8)) (.cons (.sl (.int .u8)) .nil)))))) (.cons (.sl (.int .u8)) .nil)))))) .nil))))) ::
[])))
.ret)
.skip))
(.seq
(.keep [2]
(.reg (oM 26 2 ::
oM 2 26 ::
[])))
.ret))))))
def rd_bucket_Take : List RD := [.tmp 2 true (some (.cons (.int .u64) (.cons (.int .u64) (.cons (.int .u64) (.cons (.sl (.cons (.int .i64) (.cons (.int .u64) (.cons (.int .u64) (.cons (.cons (.int .i64) (.cons (.int .i64) (.cons .bool (.cons (.int .u64) (.cons (.sl (.int .u8)) (.cons (.sl (.int .u8)) .nil)))))) (.cons (.sl (.int .u8)) .nil)))))) .nil)))))]
theorem ok_bucket_Take : fnOk Tryz.prog Tryz.f30 ir_bucket_Take rd_bucket_Take = true := by kernel_rfl
def S_bucket_Take : List AV → List Obj → Option (Prop × AV × List Obj)
  | [.ptr 0 0], [.box [.imm (.int .u8) b, .int .i64 p, .int .i64 sh, .int .i64 od, .int .i64 e, .bool true]] => some ((0 ≤ p ∧ p ≤ b.length ∧ b.length ≤ 60000 ∧ sh ≠ 0 ∧ e = 0, .imm (.cons (.int .u64) (.cons (.int .u64) (.cons (.int .u64) (.cons (.sl (.cons (.int .i64) (.cons (.int .u64) (.cons (.int .u64) (.cons (.cons (.int .i64) (.cons (.int .i64) (.cons .bool (.cons (.int .u64) (.cons (.sl (.int .u8)) (.cons (.sl (.int .u8)) .nil)))))) (.cons (.sl (.int .u8)) .nil)))))) .nil)))) (bdL (b.drop p.toNat)), [.box [.imm (.int .u8) b, .int .i64 (p + (bG (b.drop p.toNat)).2.2), .int .i64 sh, .int .i64 od, .int .i64 (bdE (b.drop p.toNat)), .bool true]]))
  | _, _ => none
theorem snd_bucket_Take : SoundS Tryz.prog 30 (RwF S_bucket_Take).sum := by
  refine rw_fn Tryz.func30 ok_bucket_Take (env_cons (s := RoF S_cursor_Cursor_Left) snd_cursor_Cursor_Left (env_cons (s := RoF S_cursor_Cursor_Err) snd_cursor_Cursor_Err (env_cons (s := RwF S_bucket_take) snd_bucket_take (env_cons (s := RwF S_cursor_Cursor_Fail) snd_cursor_Cursor_Fail (env_nil _))))) fun args objs p v o e => ?_
  unfold S_bucket_Take at e
  split at e
  · rename_i b p sh od e
    cases e
    refine ⟨rfl, fun hw ho hp => ?_⟩
    change List Int at b
    clear hw ho
    obtain ⟨hp0, hp1, hp2, hp3, rfl⟩ := hp
    obtain ⟨p, rfl⟩ := Int.eq_ofNat_of_zero_le hp0
    rw [Int.toNat_natCast]
    repeat' (intro t ht; first | (cases t <;> first | (cases ht; done) | ((try simp only [bn_s] at ht); (try simp only [nd_s] at ht); (try (exfalso; first | contradiction | omega)))) | (refine ht ?_ ?_ <;> clear ht) | (refine ht.1 ?_ ?_ <;> clear ht) | (refine ht ?_; clear ht))
    all_goals first
      | exact True.intro
      | exact ⟨hp0, hp1⟩
      | (intro r h1 h2; clear h1; refine h2 ⟨[0, 2, 3], Nat × Int × List BK, (fun a => a.1 ≤ b.length ∧ 16 * a.2.2.length ≤ a.1 + 16 ∧ ((a.2.1 = 0 ∧ 16 * a.2.2.length ≤ a.1 ∧ (bG (b.drop p)).1 = a.2.2 ++ (bG (b.drop a.1)).1 ∧ (bG (b.drop p)).2.1 = (bG (b.drop a.1)).2.1 ∧ p + (bG (b.drop p)).2.2 = a.1 + (bG (b.drop a.1)).2.2) ∨ (a.2.1 ≠ 0 ∧ (bG (b.drop p)).2.1 = a.2.1 ∧ p + (bG (b.drop p)).2.2 = a.1))), fun a => [.ptr 0 0, .own 1, .int .i64 (b.length - p)], fun a => [.box [.imm (.int .u8) b, .int .i64 a.1, .int .i64 sh, .int .i64 od, .int .i64 a.2.1, .bool true], .row false (.cons (.int .u64) (.cons (.int .u64) (.cons (.int .u64) (.cons (.sl (.cons (.int .i64) (.cons (.int .u64) (.cons (.int .u64) (.cons (.cons (.int .i64) (.cons (.int .i64) (.cons .bool (.cons (.int .u64) (.cons (.sl (.int .u8)) (.cons (.sl (.int .u8)) .nil)))))) (.cons (.sl (.int .u8)) .nil)))))) .nil)))) a.2.2], fun a => 2 * (b.length - a.1) + (if a.2.1 = 0 then 1 else 0), ⟨(p, 0, []), ⟨by dsimp only; omega, by simp, .inl ⟨rfl, by simp, rfl, rfl, rfl⟩⟩, rfl, rfl⟩, ?_⟩; clear h2)
      | trace_state
    rintro ⟨q, e, acc⟩ ⟨hq, hl, hJ⟩
    dsimp only at hq hl hJ
    have hdq : (b.drop q).length = b.length - q := List.length_drop
    repeat' (intro t ht; first | (cases t <;> first | (cases ht; done) | ((try simp only [bn_s] at ht); (try simp only [nd_s] at ht); (try (exfalso; first | contradiction | omega)))) | (refine ht ?_ ?_ <;> clear ht) | (refine ht.1 ?_ ?_ <;> clear ht) | (refine ht ?_; clear ht))
    all_goals (try dsimp only)
    all_goals (try simp only [Int.toNat_natCast] at *)
    all_goals first
      | exact True.intro
      | exact ⟨Int.natCast_nonneg _, by omega⟩
      | exact ⟨Int.natCast_nonneg _, by omega, by omega, hp3, by assumption⟩
      | (simp only [List.length_cons, List.length_nil]; omega)
      | (have h0 : ¬ e = 0 := by assumption
         rcases hJ with hJ | ⟨_, j2, j3⟩
         · exact absurd hJ.1 h0
         · have hb0 : ¬ (bG (b.drop p)).2.1 = 0 := by rw [j2]; exact h0
           have d2 : bdE (b.drop p) = e := by unfold bdE; rw [if_pos hb0]; exact j2
           have d1 : bdL (b.drop p) = [] := by unfold bdL; rw [d2, if_neg h0]
           have f1 : failE e 1549 = e := if_neg h0
           first
             | (rw [d1, d2, j3, f1]; exact ⟨rfl, rfl⟩)
             | (rw [d1, d2, j3]; exact ⟨rfl, rfl⟩)
             | (exfalso; rw [f1] at *; contradiction))
      | (have h0 : e = 0 := by assumption
         subst h0
         rcases hJ with ⟨_, j1, j2, j3, j4⟩ | hJ
         · have hn : (b.drop q).length = 0 := by omega
           rw [bG_nil hn] at j2 j3 j4
           dsimp only at j2 j3 j4
           have hb0 : ¬ ¬ (bG (b.drop p)).2.1 = 0 := not_not_intro j3
           have hdp : (b.drop p).length = b.length - p := List.length_drop
           have f1 : failE 0 1549 = 1549 := rfl
           by_cases hbig : 65528 < (b.drop p).length
           · have d2 : bdE (b.drop p) = 1549 := by unfold bdE; rw [if_neg hb0, if_pos hbig]
             have d1 : bdL (b.drop p) = [] := by unfold bdL; rw [d2]; rfl
             first
               | (exfalso; omega)
               | (rw [d1, d2, j4, Int.add_zero]; exact ⟨rfl, rfl⟩)
           · have d2 : bdE (b.drop p) = 0 := by unfold bdE; rw [if_neg hb0, if_neg hbig]
             have d1 : bdL (b.drop p) = acc := by unfold bdL; rw [d2, if_pos rfl, j2, List.append_nil]
             first
               | (exfalso; omega)
               | (rw [d1, d2, j4, Int.add_zero]; exact ⟨rfl, rfl⟩)
         · exact absurd rfl hJ.1)
      | skip
    all_goals have h0 : e = 0 := by assumption
    all_goals subst h0
    all_goals rcases hJ with ⟨_, j1, j2, j3, j4⟩ | hJ
    all_goals first
      | exact absurd rfl hJ.1
      | skip
    all_goals have hn : ¬ (b.drop q).length = 0 := by omega
    all_goals first
      | (by_cases h5 : btE (b.drop q) = 0
         · have hk := btK_parts (btE_K h5)
           have hP : btP (b.drop q) = btN (b.drop q) := if_pos (btE_K h5)
           obtain ⟨n, hnn⟩ := Int.eq_ofNat_of_zero_le (show 0 ≤ btN (b.drop q) by omega)
           rw [bG_ok hn h5, List.drop_drop, hnn, Int.toNat_natCast] at j2 j3 j4
           dsimp only at j2 j3 j4
           rw [hP, hnn]
           rw [hnn] at hk
           refine ⟨(q + n, btE (b.drop q), acc ++ [btV (b.drop q)]), ⟨?_, ?_, .inl ⟨h5, ?_, ?_, j3, ?_⟩⟩, ?_, rfl, rfl⟩
           · dsimp only; omega
           · simp only [List.length_append, List.length_cons, List.length_nil]; omega
           · simp only [List.length_append, List.length_cons, List.length_nil]; omega
           · dsimp only; rw [j2, List.append_assoc]; rfl
           · dsimp only at j4 ⊢; omega
           · dsimp only; rw [h5]; omega
         · have hPl : 0 ≤ btP (b.drop q) ∧ btP (b.drop q) ≤ (b.drop q).length := by
             unfold btP
             cases hk : btK (b.drop q) with
             | true => rw [if_pos rfl]; have := btK_parts hk; omega
             | false => rw [if_neg (by decide)]; split <;> omega
           obtain ⟨n, hnn⟩ := Int.eq_ofNat_of_zero_le hPl.1
           rw [bG_bad hn h5] at j2 j3 j4
           dsimp only at j2 j3 j4
           rw [hnn] at hPl j4 ⊢
           refine ⟨(q + n, btE (b.drop q), acc ++ [btV (b.drop q)]), ⟨?_, ?_, .inr ⟨h5, j3, ?_⟩⟩, ?_, rfl, rfl⟩
           · dsimp only; omega
           · simp only [List.length_append, List.length_cons, List.length_nil]; omega
           · dsimp only at j4 ⊢; omega
           · dsimp only; rw [if_neg h5, if_pos rfl]; omega)
      | trace_state
  · cases e
def ir_bucket_Decode : IR :=
(.seq
(.keep [0]
(.reg (oD 2 (.mov (.c (.imm (.cons (.int .u64) (.cons (.int .u64) (.cons (.int .u64) (.cons (.sl (.cons (.int .i64) (.cons (.int .u64) (.cons (.int .u64) (.cons (.cons (.int .i64) (.cons (.int .i64) (.cons .bool (.cons (.int .u64) (.cons (.sl (.int .u8)) (.cons (.sl (.int .u8)) .nil)))))) (.cons (.sl (.int .u8)) .nil)))))) .nil)))) []))) ::
oD 3 (.mov (cI 0)) ::
[])))
(.seq
(.reg (oM 6 0 ::
oD 7 (.call false (.f 28) [(.t 6), (cI 1549), (cI 1549)]) ::
oM 4 7 ::
[]))
(.seq
(.reg (oM 8 4 ::
oD 9 (.call false (.f 30) [(.t 8)]) ::
oM 5 9 ::
[]))
(.seq
(.keep [4, 5]
(.reg (oM 10 5 ::
oM 11 4 ::
oD 12 (.call false (.f 31) [(.t 11)]) ::
oM 2 10 ::
oM 3 12 ::
[])))
.ret))))
def rd_bucket_Decode : List RD := [.tmp 2 true (some (.cons (.int .u64) (.cons (.int .u64) (.cons (.int .u64) (.cons (.sl (.cons (.int .i64) (.cons (.int .u64) (.cons (.int .u64) (.cons (.cons (.int .i64) (.cons (.int .i64) (.cons .bool (.cons (.int .u64) (.cons (.sl (.int .u8)) (.cons (.sl (.int .u8)) .nil)))))) (.cons (.sl (.int .u8)) .nil)))))) .nil))))), .tmp 3 true none]
theorem ok_bucket_Decode : fnOk Tryz.prog Tryz.f25 ir_bucket_Decode rd_bucket_Decode = true := by kernel_rfl
def S_bucket_Decode : List AV → List Obj → Option (Prop × AV)
  | [.imm (.int .u8) b], [] => some ((b.length ≤ 60000, .tup [.imm (.cons (.int .u64) (.cons (.int .u64) (.cons (.int .u64) (.cons (.sl (.cons (.int .i64) (.cons (.int .u64) (.cons (.int .u64) (.cons (.cons (.int .i64) (.cons (.int .i64) (.cons .bool (.cons (.int .u64) (.cons (.sl (.int .u8)) (.cons (.sl (.int .u8)) .nil)))))) (.cons (.sl (.int .u8)) .nil)))))) .nil)))) (bdL b), .int .i64 (bdE b)]))
  | _, _ => none
theorem snd_bucket_Decode : SoundS Tryz.prog 25 (RoF S_bucket_Decode).sum := by
  refine ro_fn Tryz.func25 ok_bucket_Decode (env_cons (s := RwF S_cursor_New) snd_cursor_New (env_cons (s := RwF S_bucket_Take) snd_bucket_Take (env_cons (s := RoF S_cursor_Cursor_Err) snd_cursor_Cursor_Err (env_nil _)))) fun args objs p v e => ?_
  unfold S_bucket_Decode at e
  split at e
  · rename_i b
    cases e
    refine ⟨rfl, fun hw ho hp => ?_⟩
    change List Int at b
    clear hw ho
    repeat' (intro t ht; first | (cases t <;> first | (cases ht; done) | ((try simp only [bn_s] at ht); (try simp only [nd_s] at ht); (try (exfalso; first | contradiction | omega)))) | (refine ht ?_ ?_ <;> clear ht) | (refine ht.1 ?_ ?_ <;> clear ht) | (refine ht ?_; clear ht))
    all_goals first
      | exact True.intro
      | omega
      | ((try simp only [nd_s, bn_s, mm_s] at *); omega)
      | exact ⟨by decide, Int.natCast_nonneg _, hp, by decide, rfl⟩
      | exact ⟨rfl, rfl⟩
      | trace_state
  · cases e
end Go.Eng
namespace Go.Eng
open Go.Proofs
set_option linter.unusedVariables false
set_option linter.unusedSimpArgs false
set_option maxRecDepth 100000
set_option maxHeartbeats 1000000
def chT (l : List BK) (s : Int) : Int := l.foldl (fun s x => IntKind.u64.wrap (s + x.1)) s
def chI (n : Int) : List BK → Int → Nat → Int × Int
  | [], s, _ => (-1, s)
  | x :: r, s, i => if n < IntKind.u64.wrap (s + x.1) then ((i : Int), IntKind.u64.wrap (s + x.1)) else chI n r (IntKind.u64.wrap (s + x.1)) (i + 1)
def chR (l : List BK) (n : Int) : Int := if chT l 0 = 0 then -1 else (chI (n.tmod (chT l 0)) l 0 0).1
theorem chT_step {l : List BK} {i : Nat} {d : BK} {s : Int} (h : i < l.length) : chT (l.drop i) s = chT (l.drop (i + 1)) (IntKind.u64.wrap (s + (l.getD i d).1)) := by
  rw [drop_step h d]; rfl
theorem chI_lt {l : List BK} {i : Nat} {d : BK} {s n : Int} (h : i < l.length) (hn : n < IntKind.u64.wrap (s + (l.getD i d).1)) : chI n (l.drop i) s i = ((i : Int), IntKind.u64.wrap (s + (l.getD i d).1)) := by
  rw [drop_step h d]; exact if_pos hn
theorem chI_ge {l : List BK} {i : Nat} {d : BK} {s n : Int} (h : i < l.length) (hn : ¬ n < IntKind.u64.wrap (s + (l.getD i d).1)) : chI n (l.drop i) s i = chI n (l.drop (i + 1)) (IntKind.u64.wrap (s + (l.getD i d).1)) (i + 1) := by
  rw [drop_step h d]; exact if_neg hn
theorem chI_end {l : List BK} {i : Nat} {s n : Int} (h : l.length ≤ i) : chI n (l.drop i) s i = (-1, s) := by
  rw [List.drop_of_length_le h]; rfl
def ir_bucket_Choose_1 : IR :=
(.seq
(.keep [0, 1]
(.reg (oD 2 (.boxv (.t 0)) ::
oD 3 (.mov (.c (.int .u64 0))) ::
[])))
(.seq
(.reg (oL 4 1 ::
oD 5 (.fieldAddr 0 (.t 2)) ::
oL 6 5 ::
oD 7 (.bin .add (.t 4) (.t 6)) ::
oN (.store 1 (.t 1) (.t 7)) ::
[]))
(.seq
(.reg (oL 8 1 ::
oM 3 8 ::
[]))
.ret)))
def rd_bucket_Choose_1 : List RD := [.tmp 3 true none]
theorem ok_bucket_Choose_1 : fnOk Tryz.prog Tryz.f76 ir_bucket_Choose_1 rd_bucket_Choose_1 = true := by kernel_rfl
def S_bucket_Choose_1 : List AV → List Obj → Option (Prop × AV × List Obj)
  | [.agg [.int .u64 w, .int .u64 q, .int .u64 g, .imm (.cons (.int .i64) (.cons (.int .u64) (.cons (.int .u64) (.cons (.cons (.int .i64) (.cons (.int .i64) (.cons .bool (.cons (.int .u64) (.cons (.sl (.int .u8)) (.cons (.sl (.int .u8)) .nil)))))) (.cons (.sl (.int .u8)) .nil))))) a], .ptr 0 0], [.box [.int .u64 s]] => some ((True, .int .u64 (IntKind.u64.wrap (s + w)), [.box [.int .u64 (IntKind.u64.wrap (s + w))]]))
  | _, _ => none
theorem snd_bucket_Choose_1 : SoundS Tryz.prog 76 (RwF S_bucket_Choose_1).sum := by
  refine rw_fn Tryz.func76 ok_bucket_Choose_1 (env_nil _) fun args objs p v o e => ?_
  unfold S_bucket_Choose_1 at e
  split at e
  · rename_i w q g a s
    cases e
    refine ⟨rfl, fun hw ho hp => ?_⟩
    clear hw ho
    repeat' (intro t ht; first | (cases t <;> first | (cases ht; done) | ((try simp only [bn_s] at ht); (try simp only [nd_s] at ht); (try (exfalso; first | contradiction | omega)))) | (refine ht ?_ ?_ <;> clear ht) | (refine ht.1 (by simp only [mm_s]; omega) ?_; clear ht) | (refine ht.2 ?_; clear ht) | (refine ht ?_; clear ht))
    all_goals first
      | exact True.intro
      | exact ⟨rfl, rfl⟩
      | trace_state
  · cases e
def ir_bucket_Choose_2 : IR :=
(.seq
(.keep [0, 1, 2]
(.reg (oD 3 (.boxv (.t 0)) ::
oD 4 (.mov cF) ::
[])))
(.seq
(.keep [1, 2, 3]
(.regD ((oL 5 1, []) ::
(oD 6 (.load (some 4) (.t 3)), [0]) ::
(oD 7 (.call false (.t 5) [(.t 6)]), []) ::
(oL 8 2, [0, 0, 0]) ::
(oD 9 (.bin .gtr (.t 7) (.t 8)), []) ::
(oM 4 9, []) ::
[])))
.ret))
def rd_bucket_Choose_2 : List RD := [.tmp 4 true none]
theorem ok_bucket_Choose_2 : fnOk Tryz.prog Tryz.f78 ir_bucket_Choose_2 rd_bucket_Choose_2 = true := by kernel_rfl
def S_bucket_Choose_2 : List AV → List Obj → Option (Prop × AV × List Obj)
  | [.agg [.int .u64 w, .int .u64 q, .int .u64 g, .imm (.cons (.int .i64) (.cons (.int .u64) (.cons (.int .u64) (.cons (.cons (.int .i64) (.cons (.int .i64) (.cons .bool (.cons (.int .u64) (.cons (.sl (.int .u8)) (.cons (.sl (.int .u8)) .nil)))))) (.cons (.sl (.int .u8)) .nil))))) a], .ptr 0 0, .ptr 1 0], [.box [.fnp 76 2], .box [.int .u64 n], .box [.int .u64 s]] => some ((True, .bool (decide (n < IntKind.u64.wrap (s + w))), [.box [.fnp 76 2], .box [.int .u64 n], .box [.int .u64 (IntKind.u64.wrap (s + w))]]))
  | _, _ => none
theorem snd_bucket_Choose_2 : SoundS Tryz.prog 78 (RwF S_bucket_Choose_2).sum := by
  refine rw_fn Tryz.func78 ok_bucket_Choose_2 (env_cons (s := RwF S_bucket_Choose_1) snd_bucket_Choose_1 (env_nil _)) fun args objs p v o e => ?_
  unfold S_bucket_Choose_2 at e
  split at e
  · rename_i w q g a n s
    cases e
    refine ⟨rfl, fun hw ho hp => ?_⟩
    clear hw ho
    repeat' (intro t ht; first | (cases t <;> first | (cases ht; done) | ((try simp only [bn_s] at ht); (try simp only [nd_s] at ht); (try (exfalso; first | contradiction | omega)))) | (refine ht ?_ ?_ <;> clear ht) | (refine ht.1 ?_ ?_ <;> clear ht) | (refine ht ?_; clear ht))
    all_goals first
      | exact True.intro
      | exact ⟨rfl, rfl⟩
      | trace_state
  · cases e
def ir_slices_IndexFunc_api_Bucket_api_Bucket : IR :=
(.seq
(.keep [0, 1]
(.reg (oD 4 (.mov (cI 0)) ::
[])))
(.seq
(.seq
(.reg (oM 6 0 ::
oD 7 (.len (.t 6)) ::
oD 8 (.mov (cI 0)) ::
[]))
(.block 0
(.loop
(.seq
(.keep [0, 1, 7, 8]
(.reg (oD 9 (.bin .lss (.t 8) (.t 7)) ::
[])))
(.seq
(.cond (.t 9)
.skip
(.exit 0))
(.seq
(.block 1
(.seq
(.reg (oM 10 8 ::
oM 5 10 ::
[]))
(.seq
(.keep [0, 1, 5, 7, 8]
(.reg (oM 11 1 ::
oM 12 0 ::
oM 13 5 ::
oD 14 (.indexSl 4 (.t 12) (.t 13)) ::
oD 15 (.load (some 4) (.t 14)) ::
oD 16 (.call false (.t 11) [(.t 15)]) ::
[])))
(.cond (.t 16)
(.seq
(.keep [5]
(.reg (oM 17 5 ::
oM 4 17 ::
[])))
.ret)
.skip))))
(.keep [0, 1, 7, 8]
(.reg (oD 18 (.bin .add (.t 8) (cI 1)) ::
oM 8 18 ::
[])))))))))
(.seq
(.keep []
(.reg (oD 4 (.mov (cI (-1))) ::
[])))
.ret)))
def rd_slices_IndexFunc_api_Bucket_api_Bucket : List RD := [.tmp 4 true none]
theorem ok_slices_IndexFunc_api_Bucket_api_Bucket : fnOk Tryz.prog Tryz.f77 ir_slices_IndexFunc_api_Bucket_api_Bucket rd_slices_IndexFunc_api_Bucket_api_Bucket = true := by kernel_rfl
def S_slices_IndexFunc_api_Bucket_api_Bucket : List AV → List Obj → Option (Prop × AV × List Obj)
  | [.imm (.cons (.int .u64) (.cons (.int .u64) (.cons (.int .u64) (.cons (.sl (.cons (.int .i64) (.cons (.int .u64) (.cons (.int .u64) (.cons (.cons (.int .i64) (.cons (.int .i64) (.cons .bool (.cons (.int .u64) (.cons (.sl (.int .u8)) (.cons (.sl (.int .u8)) .nil)))))) (.cons (.sl (.int .u8)) .nil)))))) .nil)))) l, .fn 78 [] [.ptr 0 0, .ptr 1 0]], [.box [.fnp 76 2], .box [.int .u64 n], .box [.int .u64 s]] => some ((True, .int .i64 (chI n l s 0).1, [.box [.fnp 76 2], .box [.int .u64 n], .box [.int .u64 (chI n l s 0).2]]))
  | _, _ => none
theorem snd_slices_IndexFunc_api_Bucket_api_Bucket : SoundS Tryz.prog 77 (RwF S_slices_IndexFunc_api_Bucket_api_Bucket).sum := by
  refine rw_fn Tryz.func77 ok_slices_IndexFunc_api_Bucket_api_Bucket (env_cons (s := RwF S_bucket_Choose_2) snd_bucket_Choose_2 (env_nil _)) fun args objs p v o e => ?_
  unfold S_slices_IndexFunc_api_Bucket_api_Bucket at e
  split at e
  · rename_i l n s
    cases e
    refine ⟨rfl, fun hw ho hp => ?_⟩
    change List BK at l
    have hl : l.length ≤ maxLen := (hw (.imm (.cons (.int .u64) (.cons (.int .u64) (.cons (.int .u64) (.cons (.sl (.cons (.int .i64) (.cons (.int .u64) (.cons (.int .u64) (.cons (.cons (.int .i64) (.cons (.int .i64) (.cons .bool (.cons (.int .u64) (.cons (.sl (.int .u8)) (.cons (.sl (.int .u8)) .nil)))))) (.cons (.sl (.int .u8)) .nil)))))) .nil)))) l) (by simp)).2
    unfold maxLen at hl
    clear hw ho
    repeat' (intro t ht; first | (cases t <;> first | (cases ht; done) | ((try simp only [bn_s] at ht); (try simp only [nd_s] at ht))) | (refine ht ?_ ?_ <;> clear ht) | (refine ht.1 ?_ ?_ <;> clear ht) | (refine ht ?_; clear ht))
    all_goals first
      | (intro r h1 h2; clear h1; refine h2 ⟨[0, 1, 7, 8], Nat × Int, (fun a => a.1 ≤ l.length ∧ chI n l s 0 = chI n (l.drop a.1) a.2 a.1), fun a => [.imm (.cons (.int .u64) (.cons (.int .u64) (.cons (.int .u64) (.cons (.sl (.cons (.int .i64) (.cons (.int .u64) (.cons (.int .u64) (.cons (.cons (.int .i64) (.cons (.int .i64) (.cons .bool (.cons (.int .u64) (.cons (.sl (.int .u8)) (.cons (.sl (.int .u8)) .nil)))))) (.cons (.sl (.int .u8)) .nil)))))) .nil)))) l, .fn 78 [] [.ptr 0 0, .ptr 1 0], .int .i64 l.length, .int .i64 a.1], fun a => [.box [.fnp 76 2], .box [.int .u64 n], .box [.int .u64 a.2]], fun a => l.length - a.1, ⟨(0, s), ⟨Nat.zero_le _, rfl⟩, rfl, rfl⟩, ?_⟩; clear h2)
      | trace_state
    rintro ⟨i, u⟩ ⟨hi, he⟩
    dsimp only at hi he
    repeat' (intro t ht; first | (cases t <;> first | (cases ht; done) | ((try simp only [bn_s] at ht); (try simp only [nd_s] at ht); (try (exfalso; first | contradiction | omega)))) | (refine ht ?_ ?_ <;> clear ht) | (refine ht.1 ?_ ?_ <;> clear ht) | (refine ht ?_; clear ht))
    all_goals (try generalize (Ty.dflt (.cons (.int .u64) (.cons (.int .u64) (.cons (.int .u64) (.cons (.sl (.cons (.int .i64) (.cons (.int .u64) (.cons (.int .u64) (.cons (.cons (.int .i64) (.cons (.int .i64) (.cons .bool (.cons (.int .u64) (.cons (.sl (.int .u8)) (.cons (.sl (.int .u8)) .nil)))))) (.cons (.sl (.int .u8)) .nil)))))) .nil))))) = od at *)
    all_goals first
      | exact True.intro
      | ((try simp only [nd_s, bn_s, mm_s] at *); omega)
      | (rw [he, chI_end (by omega)]; exact ⟨rfl, rfl⟩)
      | (rw [he, chI_lt (d := od) (by omega) (by assumption)]; exact ⟨rfl, rfl⟩)
      | exact ⟨(i + 1, _), ⟨by dsimp only; omega, he.trans (chI_ge (d := od) (by omega) (by assumption))⟩, by dsimp only; omega, rfl, rfl⟩
      | trace_state
  · cases e
def ir_bucket_Choose : IR :=
(.seq
(.keep [0, 1]
(.reg (oD 3 (.boxv (.t 1)) ::
oD 4 (.mov (cI 0)) ::
[])))
(.seq
(.reg (oD 5 (.box [.int .u64 0]) ::
oN (.store 1 (.t 5) (.c (.int .u64 0))) ::
[]))
(.seq
(.reg (oD 9 (.mkfn 76 [] [(.t 5)]) ::
oD 6 (.box [.undef]) ::
oN (.store 1 (.t 6) (.t 9)) ::
[]))
(.seq
(.seq
(.reg (oM 10 0 ::
oD 11 (.len (.t 10)) ::
oD 12 (.mov (cI 0)) ::
[]))
(.block 0
(.loop
(.seq
(.keep [0, 3, 5, 6, 10, 11, 12]
(.reg (oD 13 (.bin .lss (.t 12) (.t 11)) ::
[])))
(.seq
(.cond (.t 13)
.skip
(.exit 0))
(.seq
(.block 1
(.seq
(.reg (oD 14 (.indexSl 4 (.t 10) (.t 12)) ::
oD 15 (.load (some 4) (.t 14)) ::
oD 8 (.box [.int .u64 0, .int .u64 0, .int .u64 0, .imm (.cons (.int .i64) (.cons (.int .u64) (.cons (.int .u64) (.cons (.cons (.int .i64) (.cons (.int .i64) (.cons .bool (.cons (.int .u64) (.cons (.sl (.int .u8)) (.cons (.sl (.int .u8)) .nil)))))) (.cons (.sl (.int .u8)) .nil))))) []]) ::
oN (.store 4 (.t 8) (.t 15)) ::
[]))
(.reg (oL 16 6 ::
oD 17 (.load (some 4) (.t 8)) ::
oD 18 (.call false (.t 16) [(.t 17)]) ::
[]))))
(.keep [0, 3, 5, 6, 10, 11, 12]
(.reg (oD 19 (.bin .add (.t 12) (cI 1)) ::
oM 12 19 ::
[])))))))))
(.seq
(.seq
(.keep [0, 3, 5, 6]
(.reg (oL 20 5 ::
oD 21 (.bin .eql (.t 20) (.c (.int .u64 0))) ::
[])))
(.cond (.t 21)
(.seq
(.reg (oD 4 (.mov (cI (-1))) ::
[]))
.ret)
.skip))
(.seq
(.reg (oL 22 3 ::
oL 23 5 ::
oD 24 (.bin .rem (.t 22) (.t 23)) ::
oN (.store 1 (.t 3) (.t 24)) ::
[]))
(.seq
(.keep [0, 3, 5, 6]
(.reg (oN (.store 1 (.t 5) (.c (.int .u64 0))) ::
[])))
(.seq
(.reg (oM 25 0 ::
oD 26 (.mkfn 78 [] [(.t 6), (.t 3)]) ::
oD 27 (.call false (.f 77) [(.t 25), (.t 26)]) ::
oM 4 27 ::
[]))
.ret))))))))
def rd_bucket_Choose : List RD := [.tmp 4 true none]
theorem ok_bucket_Choose : fnOk Tryz.prog Tryz.f33 ir_bucket_Choose rd_bucket_Choose = true := by kernel_rfl
def S_bucket_Choose : List AV → List Obj → Option (Prop × AV)
  | [.imm (.cons (.int .u64) (.cons (.int .u64) (.cons (.int .u64) (.cons (.sl (.cons (.int .i64) (.cons (.int .u64) (.cons (.int .u64) (.cons (.cons (.int .i64) (.cons (.int .i64) (.cons .bool (.cons (.int .u64) (.cons (.sl (.int .u8)) (.cons (.sl (.int .u8)) .nil)))))) (.cons (.sl (.int .u8)) .nil)))))) .nil)))) l, .int .u64 n], [] => some ((True, .int .i64 (chR l n)))
  | _, _ => none
theorem snd_bucket_Choose : SoundS Tryz.prog 33 (RoF S_bucket_Choose).sum := by
  refine ro_fn Tryz.func33 ok_bucket_Choose (env_cons (s := RwF S_bucket_Choose_1) snd_bucket_Choose_1 (env_cons (s := RwF S_bucket_Choose_2) snd_bucket_Choose_2 (env_cons (s := RwF S_slices_IndexFunc_api_Bucket_api_Bucket) snd_slices_IndexFunc_api_Bucket_api_Bucket (env_nil _)))) fun args objs p v e => ?_
  unfold S_bucket_Choose at e
  split at e
  · rename_i l n
    cases e
    refine ⟨rfl, fun hw ho hp => ?_⟩
    change List BK at l
    have hl : l.length ≤ maxLen := (hw (.imm (.cons (.int .u64) (.cons (.int .u64) (.cons (.int .u64) (.cons (.sl (.cons (.int .i64) (.cons (.int .u64) (.cons (.int .u64) (.cons (.cons (.int .i64) (.cons (.int .i64) (.cons .bool (.cons (.int .u64) (.cons (.sl (.int .u8)) (.cons (.sl (.int .u8)) .nil)))))) (.cons (.sl (.int .u8)) .nil)))))) .nil)))) l) (by simp)).2
    unfold maxLen at hl
    clear hw ho
    repeat' (intro t ht; first | (cases t <;> first | (cases ht; done) | ((try simp only [bn_s] at ht); (try simp only [nd_s] at ht))) | (refine ht ?_ ?_ <;> clear ht) | (refine ht.1 ?_ ?_ <;> clear ht) | (refine ht ?_; clear ht))
    all_goals first
      | exact True.intro
      | (intro r h1 h2; clear h1; refine h2 ⟨[0, 3, 5, 6, 10, 11, 12], Nat × Int, (fun a => a.1 ≤ l.length ∧ chT l 0 = chT (l.drop a.1) a.2), fun a => [.imm (.cons (.int .u64) (.cons (.int .u64) (.cons (.int .u64) (.cons (.sl (.cons (.int .i64) (.cons (.int .u64) (.cons (.int .u64) (.cons (.cons (.int .i64) (.cons (.int .i64) (.cons .bool (.cons (.int .u64) (.cons (.sl (.int .u8)) (.cons (.sl (.int .u8)) .nil)))))) (.cons (.sl (.int .u8)) .nil)))))) .nil)))) l, .ptr 0 0, .ptr 1 0, .ptr 2 0, .imm (.cons (.int .u64) (.cons (.int .u64) (.cons (.int .u64) (.cons (.sl (.cons (.int .i64) (.cons (.int .u64) (.cons (.int .u64) (.cons (.cons (.int .i64) (.cons (.int .i64) (.cons .bool (.cons (.int .u64) (.cons (.sl (.int .u8)) (.cons (.sl (.int .u8)) .nil)))))) (.cons (.sl (.int .u8)) .nil)))))) .nil)))) l, .int .i64 l.length, .int .i64 a.1], fun a => [.box [.int .u64 n], .box [.int .u64 a.2], .box [.fnp 76 1]], fun a => l.length - a.1, ⟨(0, 0), ⟨Nat.zero_le _, rfl⟩, rfl, rfl⟩, ?_⟩; clear h2)
      | trace_state
    rintro ⟨i, u⟩ ⟨hi, he⟩
    dsimp only at hi he
    repeat' (intro t ht; first | (cases t <;> first | (cases ht; done) | ((try simp only [bn_s] at ht); (try simp only [nd_s] at ht); (try (exfalso; first | contradiction | omega)))) | (refine ht ?_ ?_ <;> clear ht) | (refine ht.1 ?_ ?_ <;> clear ht) | (refine ht ?_; clear ht))
    all_goals (try generalize (Ty.dflt (.cons (.int .u64) (.cons (.int .u64) (.cons (.int .u64) (.cons (.sl (.cons (.int .i64) (.cons (.int .u64) (.cons (.int .u64) (.cons (.cons (.int .i64) (.cons (.int .i64) (.cons .bool (.cons (.int .u64) (.cons (.sl (.int .u8)) (.cons (.sl (.int .u8)) .nil)))))) (.cons (.sl (.int .u8)) .nil)))))) .nil))))) = od at *)
    all_goals first
      | exact True.intro
      | ((try simp only [nd_s, bn_s, mm_s] at *); omega)
      | omega
      | assumption
      | (rw [List.drop_of_length_le (show l.length ≤ i by omega)] at he
         have he : chT l 0 = u := he
         unfold chR; rw [he]
         first
           | (rw [if_pos (by assumption)]; exact ⟨rfl, rfl⟩)
           | (rw [if_neg (by assumption)]; exact ⟨rfl, rfl⟩))
      | exact ⟨(i + 1, _), ⟨by dsimp only; omega, he.trans (chT_step (d := od) (by omega))⟩, by dsimp only; omega, rfl, rfl⟩
      | trace_state
  · cases e
end Go.Eng
namespace Go.Eng
open Go.Proofs
set_option linter.unusedVariables false
set_option linter.unusedSimpArgs false
set_option maxRecDepth 100000
set_option maxHeartbeats 1000000
def ir_bucket_Encode : IR :=
(.seq
(.keep [0]
(.reg (oD 2 (.mov (.c (.imm (.int .u8) []))) ::
oD 3 (.mov (cI 0)) ::
[])))
(.seq
(.reg (oD 9 (.call false (.f 38) [(cI 65528)]) ::
oM 4 9 ::
[]))
(.seq
(.seq
(.reg (oM 10 0 ::
oD 11 (.len (.t 10)) ::
oD 12 (.mov (cI 0)) ::
[]))
(.block 0
(.loop
(.seq
(.keep [4, 10, 11, 12]
(.reg (oD 13 (.bin .lss (.t 12) (.t 11)) ::
[])))
(.seq
(.cond (.t 13)
.skip
(.exit 0))
(.seq
(.block 1
(.seq
(.reg (oD 14 (.indexSl 4 (.t 10) (.t 12)) ::
oD 15 (.load (some 4) (.t 14)) ::
oD 6 (.box [.int .u64 0, .int .u64 0, .int .u64 0, .imm (.cons (.int .i64) (.cons (.int .u64) (.cons (.int .u64) (.cons (.cons (.int .i64) (.cons (.int .i64) (.cons .bool (.cons (.int .u64) (.cons (.sl (.int .u8)) (.cons (.sl (.int .u8)) .nil)))))) (.cons (.sl (.int .u8)) .nil))))) []]) ::
oN (.store 4 (.t 6) (.t 15)) ::
[]))
(.reg (oM 16 4 ::
oD 17 (.load (some 4) (.t 6)) ::
oD 18 (.call false (.f 80) [(.t 16), (.t 17)]) ::
[]))))
(.keep [4, 10, 11, 12]
(.reg (oD 19 (.bin .add (.t 12) (cI 1)) ::
oM 12 19 ::
[])))))))))
(.seq
(.keep [4]
(.reg (oM 21 4 ::
oD 22 (.call false (.f 41) [(.t 21)]) ::
oM 20 22 ::
oD 23 (.extract (.t 20) 0) ::
oD 24 (.extract (.t 20) 1) ::
oM 7 23 ::
oM 8 24 ::
[])))
(.seq
(.seq
(.keep [7, 8]
(.reg (oM 25 8 ::
oD 26 (.bin .neq (.t 25) (cI 0)) ::
[])))
(.cond (.t 26)
(.seq
(.reg (oD 2 (.mov (.c (.imm (.int .u8) []))) ::
oD 3 (.mov (cI 10001)) ::
[]))
.ret)
.skip))
(.seq
(.reg (oM 27 7 ::
oM 2 27 ::
oD 3 (.mov (cI 0)) ::
[]))
.ret))))))
def rd_bucket_Encode : List RD := [.tmp 2 true (some (.int .u8)), .tmp 3 true none]
theorem ok_bucket_Encode : fnOk Tryz.prog Tryz.f36 ir_bucket_Encode rd_bucket_Encode = true := by kernel_rfl
def S_bucket_Encode : List AV → List Obj → Option (Prop × AV)
  | [.imm (.cons (.int .u64) (.cons (.int .u64) (.cons (.int .u64) (.cons (.sl (.cons (.int .i64) (.cons (.int .u64) (.cons (.int .u64) (.cons (.cons (.int .i64) (.cons (.int .i64) (.cons .bool (.cons (.int .u64) (.cons (.sl (.int .u8)) (.cons (.sl (.int .u8)) .nil)))))) (.cons (.sl (.int .u8)) .nil)))))) .nil)))) l], [] => some ((okB l, .tup [.imm (.int .u8) (bkL l), .int .i64 (bkE l)]))
  | _, _ => none
theorem snd_bucket_Encode : SoundS Tryz.prog 36 (RoF S_bucket_Encode).sum := by
  refine ro_fn Tryz.func36 ok_bucket_Encode (env_cons (s := RwF S_buffer_New) snd_buffer_New (env_cons (s := RwF S_bucket_put) snd_bucket_put (env_cons (s := RwF S_buffer_Buffer_Done) snd_buffer_Buffer_Done (env_nil _)))) fun args objs p v e => ?_
  unfold S_bucket_Encode at e
  split at e
  · rename_i l
    cases e
    refine ⟨rfl, fun hw ho hp => ?_⟩
    change List BK at l
    clear hw ho
    have hok := hp
    have hn := hok.n
    have hroom : roomF 65528 = 65528 := by decide
    repeat' (intro t ht; first | (cases t <;> first | (cases ht; done) | ((try simp only [bn_s] at ht); (try simp only [nd_s] at ht))) | (refine ht ?_ ?_ <;> clear ht) | (refine ht.1 ?_ ?_ <;> clear ht) | (refine ht ?_; clear ht))
    all_goals first
      | exact True.intro
      | (intro r h1 h2; clear h1; refine h2 ⟨[4, 10, 11, 12], Nat × List Int × Int, (fun a => a.1 ≤ l.length ∧ a.2.1.length ≤ 1000000 ∧ bkS l [] 0 = bkS (l.drop a.1) a.2.1 a.2.2), fun a => [.ptr 0 0, .imm (.cons (.int .u64) (.cons (.int .u64) (.cons (.int .u64) (.cons (.sl (.cons (.int .i64) (.cons (.int .u64) (.cons (.int .u64) (.cons (.cons (.int .i64) (.cons (.int .i64) (.cons .bool (.cons (.int .u64) (.cons (.sl (.int .u8)) (.cons (.sl (.int .u8)) .nil)))))) (.cons (.sl (.int .u8)) .nil)))))) .nil)))) l, .int .i64 l.length, .int .i64 a.1], fun a => [.box [.own 1, .int .i64 65528, .mapv 2, .int .i64 a.2.2], .row false (.int .u8) a.2.1, .map true (.int .i64) (.int .i64) ([])], fun a => l.length - a.1, ⟨(0, [], 0), ⟨Nat.zero_le _, by simp, rfl⟩, rfl, by rw [hroom]; rfl⟩, ?_⟩; clear h2)
      | trace_state
    rintro ⟨i, b, e⟩ ⟨hi, hb, he⟩
    dsimp only at hi hb he
    repeat' (intro t ht; first | (cases t <;> first | (cases ht; done) | ((try simp only [bn_s] at ht); (try simp only [nd_s] at ht))) | (refine ht ?_ ?_ <;> clear ht) | (refine ht.1 ?_ ?_ <;> clear ht) | (refine ht ?_; clear ht))
    all_goals (try generalize (Ty.dflt (.cons (.int .u64) (.cons (.int .u64) (.cons (.int .u64) (.cons (.sl (.cons (.int .i64) (.cons (.int .u64) (.cons (.int .u64) (.cons (.cons (.int .i64) (.cons (.int .i64) (.cons .bool (.cons (.int .u64) (.cons (.sl (.int .u8)) (.cons (.sl (.int .u8)) .nil)))))) (.cons (.sl (.int .u8)) .nil)))))) .nil))))) = pd at *)
    all_goals first
      | exact True.intro
      | ((try simp only [nd_s, bn_s, mm_s] at *); omega)
      | exact ⟨hok.a _ (getD_mem' (by omega) pd), by decide, by decide, hb⟩
      | (simp only [List.length_nil]; (try simp only [nd_s, bn_s, mm_s] at *); omega)
      | (have h0 : e = 0 := by unfold doneE at ht; split at ht <;> first | assumption | exact ht
         subst h0
         rw [List.drop_of_length_le (by omega)] at he
         have h1 : bkS l [] 0 = (b, 0) := he
         refine ⟨?_, rfl⟩; unfold bkL bkE doneL doneB; rw [h1]; rfl)
      | (have h0 : ¬ e = 0 := fun h => ht (by rw [h]; rfl)
         rw [List.drop_of_length_le (by omega)] at he
         have h1 : bkS l [] 0 = (b, e) := he
         refine ⟨?_, rfl⟩; unfold bkL bkE; rw [h1, if_neg h0, if_neg h0])
      | (refine ⟨(i + 1, _, _), ⟨?_, ?_, he.trans (bkS_step (d := pd) (by omega))⟩, ?_, ?_, ?_⟩
         · dsimp only; omega
         · exact bpB_lim hb (by decide)
         · dsimp only; omega
         · rfl
         · rfl)
      | trace_state
  · cases e
def ir_bucket_Right : IR :=
(.seq
(.keep [0]
(.reg (oD 2 (.mov cF) ::
[])))
(.seq
(.keep [0]
(.reg (oM 6 0 ::
oD 7 (.call false (.f 36) [(.t 6)]) ::
oM 5 7 ::
oD 8 (.extract (.t 5) 0) ::
oD 9 (.extract (.t 5) 1) ::
oM 3 8 ::
oM 4 9 ::
[])))
(.seq
(.keep [4]
(.reg (oM 10 4 ::
oD 11 (.bin .eql (.t 10) (cI 0)) ::
oM 2 11 ::
[])))
.ret)))
def rd_bucket_Right : List RD := [.tmp 2 true none]
theorem ok_bucket_Right : fnOk Tryz.prog Tryz.f42 ir_bucket_Right rd_bucket_Right = true := by kernel_rfl
def S_bucket_Right : List AV → List Obj → Option (Prop × AV)
  | [.imm (.cons (.int .u64) (.cons (.int .u64) (.cons (.int .u64) (.cons (.sl (.cons (.int .i64) (.cons (.int .u64) (.cons (.int .u64) (.cons (.cons (.int .i64) (.cons (.int .i64) (.cons .bool (.cons (.int .u64) (.cons (.sl (.int .u8)) (.cons (.sl (.int .u8)) .nil)))))) (.cons (.sl (.int .u8)) .nil)))))) .nil)))) l], [] => some ((okB l, .bool (decide (bkE l = 0))))
  | _, _ => none
theorem snd_bucket_Right : SoundS Tryz.prog 42 (RoF S_bucket_Right).sum := by
  refine ro_fn Tryz.func42 ok_bucket_Right (env_cons (s := RoF S_bucket_Encode) snd_bucket_Encode (env_nil _)) fun args objs p v e => ?_
  unfold S_bucket_Right at e
  split at e
  · rename_i l
    cases e
    refine ⟨rfl, fun hw ho hp => ?_⟩
    repeat' (intro t ht; first | (cases t <;> first | (cases ht; done) | ((try simp only [bn_s] at ht); (try simp only [nd_s] at ht); (try (exfalso; first | contradiction | omega)))) | (refine ht ?_ ?_ <;> clear ht) | (refine ht.1 ?_ ?_ <;> clear ht) | (refine ht ?_; clear ht))
    all_goals first
      | exact True.intro
      | exact hp
      | exact ⟨rfl, rfl⟩
  · cases e
def bkpB (l : List Int) (room e : Int) (x : List BK) : List Int := bufB (bkL x) l room (failE e (bkE x))
def bkpE (l : List Int) (room e : Int) (x : List BK) : Int := bufE (bkL x) l room (failE e (bkE x))
def ir_bucket_Put : IR :=
(.seq
(.keep [0, 1]
(.reg (oM 7 1 ::
oD 8 (.call false (.f 36) [(.t 7)]) ::
oM 6 8 ::
oD 9 (.extract (.t 6) 0) ::
oD 10 (.extract (.t 6) 1) ::
oM 4 9 ::
oM 5 10 ::
[])))
(.seq
(.keep [0, 4, 5]
(.reg (oM 11 0 ::
oM 12 5 ::
oD 13 (.call false (.f 83) [(.t 11), (.t 12)]) ::
[])))
(.reg (oM 14 0 ::
oM 15 4 ::
oD 16 (.call false (.f 39) [(.t 14), (.t 15)]) ::
[]))))
def rd_bucket_Put : List RD := []
theorem ok_bucket_Put : fnOk Tryz.prog Tryz.f40 ir_bucket_Put rd_bucket_Put = true := by kernel_rfl
def S_bucket_Put : List AV → List Obj → Option (Prop × AV × List Obj)
  | [.ptr 0 0, .imm (.cons (.int .u64) (.cons (.int .u64) (.cons (.int .u64) (.cons (.sl (.cons (.int .i64) (.cons (.int .u64) (.cons (.int .u64) (.cons (.cons (.int .i64) (.cons (.int .i64) (.cons .bool (.cons (.int .u64) (.cons (.sl (.int .u8)) (.cons (.sl (.int .u8)) .nil)))))) (.cons (.sl (.int .u8)) .nil)))))) .nil)))) x], [.box [.own 1, .int .i64 room, .mapv 2, .int .i64 e], .row false (.int .u8) l, .map sq (.int .i64) (.int .i64) h] => some ((okB x ∧ 0 ≤ room ∧ room ≤ 1000000 ∧ l.length ≤ 1000000, .tup [], [.box [.own 3, .int .i64 room, .mapv 2, .int .i64 (bkpE l room e x)], .dead, .map sq (.int .i64) (.int .i64) h, .row false (.int .u8) (bkpB l room e x)]))
  | _, _ => none
theorem snd_bucket_Put : SoundS Tryz.prog 40 (RwF S_bucket_Put).sum := by
  refine rw_fn Tryz.func40 ok_bucket_Put (env_cons (s := RoF S_bucket_Encode) snd_bucket_Encode (env_cons (s := RwF S_buffer_Buffer_Fail) snd_buffer_Buffer_Fail (env_cons (s := RwF S_buffer_Buffer_Bytes) snd_buffer_Buffer_Bytes (env_nil _)))) fun args objs p v o e => ?_
  unfold S_bucket_Put at e
  split at e
  · rename_i x room e l sq h
    cases e
    refine ⟨rfl, fun hw ho hp => ?_⟩
    change List Int at l
    have hx := bkL_lim x
    clear hw ho
    repeat' (intro t ht; first | (cases t <;> first | (cases ht; done) | ((try simp only [bn_s] at ht); (try simp only [nd_s] at ht); (try (exfalso; first | contradiction | omega)))) | (refine ht ?_ ?_ <;> clear ht) | (refine ht.1 ?_ ?_ <;> clear ht) | (refine ht ?_; clear ht))
    all_goals first
      | exact True.intro
      | exact hp.1
      | exact ⟨hp.2.1, hp.2.2.1, hp.2.2.2, hx⟩
      | exact ⟨rfl, rfl⟩
      | trace_state
  · cases e
theorem bbF_len {x : BK} {y : List Int} (h : bbF x = some y) : y.length ≤ 70000 := by
  unfold bbF at h
  split at h
  · rename_i hk
    cases h
    have h1 := rgL_parts hk.1
    have h2 := putB_size hk.2
    have e : sizeW w5 = 16 := by decide
    rw [e] at h2
    rw [List.length_append]; omega
  · cases h
theorem bk_some {l : List BK} {r : List Int} (h : bbA l [] = some r) : (r.length ≤ 65528 → bkL l = r ∧ bkE l = 0) ∧ (¬ r.length ≤ 65528 → bkL l = [] ∧ bkE l = 10001) := by
  obtain ⟨h1, h2⟩ := bk_law l
  unfold rbO at h1 h2
  rw [h] at h1 h2
  simp only [] at h1 h2
  constructor
  · intro hr
    rw [if_pos hr] at h1 h2; exact ⟨h1, h2⟩
  · intro hr
    rw [if_neg hr] at h1 h2; exact ⟨h1, h2⟩
theorem bk_none {l : List BK} (h : bbA l [] = none) : bkL l = [] ∧ bkE l = 10001 := by
  obtain ⟨h1, h2⟩ := bk_law l
  unfold rbO at h1 h2
  rw [h] at h1 h2; exact ⟨h1, h2⟩
theorem alL_len (l : List AC) : (alL l).length ≤ 65528 := by
  unfold alL; split
  · exact (rgL_parts (by assumption)).2.2.1
  · simp
def ir_r16_Encode : IR :=
(.seq
(.keep [0]
(.reg (oD 2 (.nilrow (.int .u8)) ::
oD 3 (.mov (cI 0)) ::
[])))
(.seq
(.reg (oD 4 (.nilrow (.int .u8)) ::
[]))
(.seq
(.seq
(.reg (oD 5 (.mov (cI 0)) ::
[]))
(.block 0
(.loop
(.seq
(.seq
(.keep [0, 4, 5]
(.reg (oM 10 5 ::
oM 11 0 ::
oD 12 (.len (.t 11)) ::
oD 13 (.bin .lss (.t 10) (.t 12)) ::
[])))
(.cond (.t 13)
.skip
(.exit 0)))
(.seq
(.block 1
(.seq
(.keep [0, 4, 5]
(.reg (oM 17 0 ::
oM 18 5 ::
oD 19 (.indexSl 4 (.t 17) (.t 18)) ::
oD 20 (.fieldAddr 3 (.t 19)) ::
oL 21 20 ::
oD 22 (.call false (.f 81) [(.t 21)]) ::
oM 16 22 ::
oD 23 (.extract (.t 16) 0) ::
oD 24 (.extract (.t 16) 1) ::
oM 6 23 ::
oM 7 24 ::
[])))
(.seq
(.keep [0, 4, 5, 6, 7]
(.regD ((oD 26 (.sliceAll (.int .i64) 5 [(0, 1, (cI 2)), (1, 1, (cI 2)), (2, 1, (cI 4)), (3, 1, (cI 4)), (4, 1, (cI (-4)))]), []) ::
(oM 27 6, [0]) ::
(oD 28 (.len (.t 27)), [1]) ::
(oD 29 (.bin .add (cI 16) (.t 28)), [2]) ::
(oD 30 (.conv .u64 (.t 29)), [3]) ::
(oM 31 0, [0, 0, 0, 0, 0]) ::
(oM 32 5, [0, 0, 0, 0, 0, 0]) ::
(oD 33 (.indexSl 4 (.t 31) (.t 32)), [2, 0, 0, 0, 0]) ::
(oD 34 (.fieldAddr 0 (.t 33)), [3, 0, 0, 0, 0]) ::
(oL 35 34, [4, 0, 0, 0, 0]) ::
(oM 36 0, [0, 0, 0, 0, 0, 0, 0, 0, 0, 0]) ::
(oM 37 5, [0, 0, 0, 0, 0, 0, 0, 0, 0, 0, 0]) ::
(oD 38 (.indexSl 4 (.t 36) (.t 37)), [2, 0, 0, 0, 0, 0, 0, 0, 0, 0]) ::
(oD 39 (.fieldAddr 1 (.t 38)), [3, 0, 0, 0, 0, 0, 0, 0, 0, 0]) ::
(oL 40 39, [4, 0, 0, 0, 0, 0, 0, 0, 0, 0]) ::
(oM 41 0, [0, 0, 0, 0, 0, 0, 0, 0, 0, 0, 0, 0, 0, 0, 0]) ::
(oM 42 5, [0, 0, 0, 0, 0, 0, 0, 0, 0, 0, 0, 0, 0, 0, 0, 0]) ::
(oD 43 (.indexSl 4 (.t 41) (.t 42)), [2, 0, 0, 0, 0, 0, 0, 0, 0, 0, 0, 0, 0, 0, 0]) ::
(oD 44 (.fieldAddr 2 (.t 43)), [3, 0, 0, 0, 0, 0, 0, 0, 0, 0, 0, 0, 0, 0, 0]) ::
(oL 45 44, [4, 0, 0, 0, 0, 0, 0, 0, 0, 0, 0, 0, 0, 0, 0]) ::
(oD 46 (.sliceAll (.int .u64) 4 [(0, 1, (.t 30)), (1, 1, (.t 35)), (2, 1, (.t 40)), (3, 1, (.t 45))]), [19]) ::
(oD 47 (.call false (.f 59) [(.t 26), (.t 46)]), []) ::
(oM 25 47, []) ::
(oD 48 (.extract (.t 25) 0), []) ::
(oD 49 (.extract (.t 25) 1), [0]) ::
(oM 8 48, [0]) ::
(oM 9 49, []) ::
[])))
(.seq
(.seq
(.keep [0, 4, 5, 6, 7, 8, 9]
(.reg (oM 50 7 ::
oD 51 (.bin .neq (.t 50) (cI 0)) ::
oM 52 51 ::
oF 52 53 (.mov (.t 9)) ::
oF 52 54 (.un .not (.t 53)) ::
oD 55 (.pick (.t 52) cT (.t 54)) ::
[])))
(.cond (.t 55)
(.seq
(.keep []
(.reg (oD 2 (.nilrow (.int .u8)) ::
oD 3 (.mov (cI 10001)) ::
[])))
.ret)
.skip))
(.keep [0, 4, 5, 6, 8]
(.reg (oM 56 4 ::
oM 57 8 ::
oD 58 (.append (.int .u8) 1 (.t 56) (.t 57)) ::
oM 59 6 ::
oD 60 (.append (.int .u8) 1 (.t 58) (.t 59)) ::
oM 4 60 ::
[])))))))
(.keep [0, 4, 5]
(.reg (oM 14 5 ::
oD 15 (.bin .add (.t 14) (cI 1)) ::
oM 5 15 ::
[]))))))))
(.seq
(.seq
(.keep [4]
(.reg (oM 61 4 ::
oD 62 (.len (.t 61)) ::
oD 63 (.bin .gtr (.t 62) (cI 65528)) ::
[])))
(.cond (.t 63)
(.seq
(.reg (oD 2 (.nilrow (.int .u8)) ::
oD 3 (.mov (cI 10001)) ::
[]))
.ret)
.skip))
(.seq
(.reg (oM 64 4 ::
oM 2 64 ::
oD 3 (.mov (cI 0)) ::
[]))
.ret)))))
def rd_r16_Encode : List RD := [.tmp 2 true (some (.int .u8)), .tmp 3 true none]
theorem ok_r16_Encode : fnOk Tryz.prog Tryz.f37 ir_r16_Encode rd_r16_Encode = true := by kernel_rfl
def S_r16_Encode : List AV → List Obj → Option (Prop × AV)
  | [.imm (.cons (.int .u64) (.cons (.int .u64) (.cons (.int .u64) (.cons (.sl (.cons (.int .i64) (.cons (.int .u64) (.cons (.int .u64) (.cons (.cons (.int .i64) (.cons (.int .i64) (.cons .bool (.cons (.int .u64) (.cons (.sl (.int .u8)) (.cons (.sl (.int .u8)) .nil)))))) (.cons (.sl (.int .u8)) .nil)))))) .nil)))) l], [] => some ((okB l ∧ l.length ≤ 1000, .tup [.imm (.int .u8) (bkL l), .int .i64 (bkE l)]))
  | _, _ => none
theorem snd_r16_Encode : SoundS Tryz.prog 37 (RoF S_r16_Encode).sum := by
  refine ro_fn Tryz.func37 ok_r16_Encode (env_cons (s := RoF S_r13_Encode) snd_r13_Encode (env_cons (s := RoF S_r01_Put) snd_r01_Put (env_nil _))) fun args objs p v e => ?_
  unfold S_r16_Encode at e
  split at e
  · rename_i l
    cases e
    refine ⟨rfl, fun hw ho hp => ?_⟩
    change List BK at l
    clear hw ho
    obtain ⟨hok, hn⟩ := hp
    repeat' (intro t ht; first | (cases t <;> first | (cases ht; done) | ((try simp only [bn_s] at ht); (try simp only [nd_s] at ht))) | (refine ht ?_ ?_ <;> clear ht) | (refine ht.1 ?_ ?_ <;> clear ht) | (refine ht ?_; clear ht))
    all_goals first
      | exact True.intro
      | (intro r h1 h2; clear h1; refine h2 ⟨[0, 4, 5], Nat × List Int, (fun a => a.1 ≤ l.length ∧ a.2.length ≤ a.1 * 70000 ∧ bbA l [] = bbA (l.drop a.1) a.2), fun a => [.imm (.cons (.int .u64) (.cons (.int .u64) (.cons (.int .u64) (.cons (.sl (.cons (.int .i64) (.cons (.int .u64) (.cons (.int .u64) (.cons (.cons (.int .i64) (.cons (.int .i64) (.cons .bool (.cons (.int .u64) (.cons (.sl (.int .u8)) (.cons (.sl (.int .u8)) .nil)))))) (.cons (.sl (.int .u8)) .nil)))))) .nil)))) l, .own 0, .int .i64 a.1], fun a => [.row false (.int .u8) a.2], fun a => l.length - a.1, ⟨(0, []), ⟨Nat.zero_le _, by simp, rfl⟩, rfl, rfl⟩, ?_⟩; clear h2)
      | trace_state
    rintro ⟨i, o⟩ ⟨hi, ho, he⟩
    dsimp only at hi ho he
    repeat' (intro t ht; first | (cases t <;> first | (cases ht; done) | ((try simp only [bn_s] at ht); (try simp only [nd_s] at ht); (try (exfalso; first | contradiction | omega)))) | (refine ht ?_ ?_ <;> clear ht) | (refine ht.1 ?_ ?_ <;> clear ht) | (refine ht ?_; clear ht))
    all_goals (try generalize (Ty.dflt (.cons (.int .u64) (.cons (.int .u64) (.cons (.int .u64) (.cons (.sl (.cons (.int .i64) (.cons (.int .u64) (.cons (.int .u64) (.cons (.cons (.int .i64) (.cons (.int .i64) (.cons .bool (.cons (.int .u64) (.cons (.sl (.int .u8)) (.cons (.sl (.int .u8)) .nil)))))) (.cons (.sl (.int .u8)) .nil)))))) .nil))))) = pd at *)
    all_goals (try simp only [Int.toNat_natCast] at *)
    all_goals first
      | exact True.intro
      | omega
      | ((try simp only [nd_s, bn_s, mm_s] at *); omega)
      | (rw [List.drop_of_length_le (show l.length ≤ i by omega)] at he
         have he : bbA l [] = some o := he
         obtain ⟨b1, b2⟩ := bk_some he
         first
           | (obtain ⟨e1, e2⟩ := b1 (by omega); rw [e1, e2]; exact ⟨rfl, by first | rfl | exact True.intro⟩)
           | (obtain ⟨e1, e2⟩ := b2 (by omega); rw [e1, e2]; exact ⟨rfl, by first | rfl | exact True.intro⟩))
      | (have hlt : i < l.length := by omega
         have hoa := hok.a _ (getD_mem' hlt pd)
         have hal := alL_len (l.getD i pd).2.2.2.1
         have hpb := putB_len [2, 2, 4, 4, -4] [16 + ((alL (l.getD i pd).2.2.2.1).length : Int), (l.getD i pd).1, (l.getD i pd).2.1, (l.getD i pd).2.2.1]
         have e16 : 8 * ([2, 2, 4, 4, -4] : List Int).length = 40 := rfl
         first
           | exact hoa
           | ((try simp only [nd_s, bn_s, mm_s] at *); omega)
           | (simp only [List.length_append, List.length_cons, List.length_nil] at *; constructor <;> omega)
           | (cases hr : rgL (l.getD i pd).2.2.2.1 with
              | false =>
                have hx : bbF (l.getD i pd) = none := by unfold bbF; rw [hr]; exact if_neg fun h => absurd h.1 (by decide)
                have h0 := bbA_none (o := o) hlt hx
                obtain ⟨e1, e2⟩ := bk_none (he.trans h0)
                first
                  | (rw [e1, e2]; exact ⟨rfl, by first | rfl | exact True.intro⟩)
                  | (exfalso; have h1 : alE (l.getD i pd).2.2.2.1 = 10001 := by unfold alE; rw [hr]; rfl
                     simp_all; done)
              | true =>
                have hL : alL (l.getD i pd).2.2.2.1 = boA (l.getD i pd).2.2.2.1 := if_pos hr
                have hZ : 16 + ((alL (l.getD i pd).2.2.2.1).length : Int) = 16 + szL (l.getD i pd).2.2.2.1 := by rw [hL, (rgL_parts hr).2.2.2]
                have hE : alE (l.getD i pd).2.2.2.1 = 0 := if_pos hr
                cases hk : putK [2, 2, 4, 4, -4] [16 + ((alL (l.getD i pd).2.2.2.1).length : Int), (l.getD i pd).1, (l.getD i pd).2.1, (l.getD i pd).2.2.1] with
                | false =>
                  have hk2 : putK w5 (bkN (l.getD i pd)) = false := by rw [← hk, hZ]; rfl
                  have hx : bbF (l.getD i pd) = none := by unfold bbF; rw [hk2]; exact if_neg fun h => absurd h.2 (by decide)
                  have h0 := bbA_none (o := o) hlt hx
                  obtain ⟨e1, e2⟩ := bk_none (he.trans h0)
                  first
                    | (rw [e1, e2]; exact ⟨rfl, by first | rfl | exact True.intro⟩)
                    | (exfalso; simp_all; done)
                | true =>
                  have hk2 : putK w5 (bkN (l.getD i pd)) = true := by rw [← hk, hZ]; rfl
                  have hx : bbF (l.getD i pd) = some (putB w5 (bkN (l.getD i pd)) ++ boA (l.getD i pd).2.2.2.1) := if_pos ⟨hr, hk2⟩
                  first
                    | (exfalso; contradiction)
                    | (refine ⟨(i + 1, _), ⟨?_, ?_, he.trans (bbA_some hlt hx)⟩, ?_, ?_, ?_⟩
                       · dsimp only; omega
                       · have := bbF_len hx
                         dsimp only; rw [List.length_append]; omega
                       · dsimp only; omega
                       · rfl
                       · rw [hZ, hL]; simp only [cast_rfl, List.append_assoc]; rfl)
                    | (exfalso; simp_all; done)))
      | skip
  · cases e
end Go.Eng
