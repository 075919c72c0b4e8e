/- Parts of the proof: the last, for this claim. No condition. -/
import Derived.Test.YtbenhegdnaoalaaGreatDoorProg
import Derived.Test.YtbenhegdnaoalaaGreatDoorWA10
import Derived.KernelRfl
import Derived.Test.YtbenhegdnaoalaaGreatDoorWA23
namespace Go.Eng
open Go.Proofs
set_option linter.unusedVariables false
set_option linter.unusedSimpArgs false
set_option maxRecDepth 100000
set_option maxHeartbeats 1000000
theorem numZ : ∀ (l : List Int) (n : Int), 0 ≤ n → (∀ x ∈ l, 0 ≤ x) → (l.foldl (fun n c => n * 256 + c) n = 0 ↔ n = 0 ∧ zeroL l = true)
  | [], n, h, _ => ⟨fun h => ⟨h, rfl⟩, fun h => h.1⟩
  | c :: r, n, h, hl => by
    have hc := hl c (List.mem_cons_self ..)
    have ih := numZ r (n * 256 + c) (by omega) fun x hx => hl x (List.mem_cons_of_mem _ hx)
    rw [List.foldl_cons, ih]
    unfold zeroL
    rw [List.all_cons, Bool.and_eq_true, decide_eq_true_eq]
    constructor
    · rintro ⟨h1, h2⟩; exact ⟨by omega, by omega, h2⟩
    · rintro ⟨h1, h2, h3⟩; exact ⟨by omega, h3⟩
theorem num_zero {l : List Int} (hl : ∀ x ∈ l, 0 ≤ x) : numL l = 0 ↔ zeroL l = true := by
  have := numZ l 0 (Int.le_refl _) hl
  unfold numL; rw [this]; simp
theorem get44 {y : List Int} (h : 12 ≤ y.length) : getL [2, 2, 4, 4] y = [numL (y.take 2), numL ((y.drop 2).take 2), numL ((y.drop 4).take 4), numL ((y.drop 8).take 4)] ∧ getK [2, 2, 4, 4] y = 0 := by
  have hr : rightF [2, 2, 4, 4] = true := by decide
  have a4 : absI 4 = 4 := by decide
  have a2 : absI 2 = 2 := by decide
  have t2 : Int.toNat 2 = 2 := rfl
  have t4 : Int.toNat 4 = 4 := rfl
  have p2 : (0 : Int) < 2 := by decide
  have p4 : (0 : Int) < 4 := by decide
  unfold getL getK getF
  rw [if_pos hr]
  simp only [getA, a4, a2, t2, t4, if_pos p2, if_pos p4, List.length_drop, List.drop_drop]
  rw [if_neg (by omega), if_neg (by omega), if_neg (by omega), if_neg (by omega)]
  exact ⟨rfl, rfl⟩
theorem bd_bad {b : List Int} {e : Int} (h : (bG b).2.1 = e) (h0 : ¬ e = 0) : bdL b = [] ∧ bdE b = e := by
  have : bdE b = e := by unfold bdE; rw [h, if_pos h0]
  exact ⟨by unfold bdL; rw [this, if_neg h0], this⟩
theorem bd_end {b : List Int} {acc : List BK} (h1 : (bG b).1 = acc) (h : (bG b).2.1 = 0) : (65528 < b.length → bdL b = [] ∧ bdE b = 1549) ∧ (¬ 65528 < b.length → bdL b = acc ∧ bdE b = 0) := by
  have e : bdE b = if 65528 < b.length then 1549 else 0 := by unfold bdE; rw [h, if_neg (not_not_intro rfl)]
  constructor
  · intro hl
    rw [if_pos hl] at e
    exact ⟨by unfold bdL; rw [e]; rfl, e⟩
  · intro hl
    rw [if_neg hl] at e
    exact ⟨by unfold bdL; rw [e, if_pos rfl]; exact h1, e⟩
def ir_r16_Decode : IR :=
(.seq
(.keep [0]
(.reg (oD 2 (.nilrow (.cons (.int .u64) (.cons (.int .u64) (.cons (.int .u64) (.cons (.sl (.cons (.int .i64) (.cons (.int .u64) (.cons (.int .u64) (.cons (.cons (.int .i64) (.cons (.int .i64) (.cons .bool (.cons (.int .u64) (.cons (.sl (.int .u8)) (.cons (.sl (.int .u8)) .nil)))))) (.cons (.sl (.int .u8)) .nil)))))) .nil))))) ::
oD 3 (.mov (cI 0)) ::
[])))
(.seq
(.reg (oM 11 0 ::
oD 12 (.len (.t 11)) ::
oM 4 12 ::
[]))
(.seq
(.reg (oD 5 (.nilrow (.cons (.int .u64) (.cons (.int .u64) (.cons (.int .u64) (.cons (.sl (.cons (.int .i64) (.cons (.int .u64) (.cons (.int .u64) (.cons (.cons (.int .i64) (.cons (.int .i64) (.cons .bool (.cons (.int .u64) (.cons (.sl (.int .u8)) (.cons (.sl (.int .u8)) .nil)))))) (.cons (.sl (.int .u8)) .nil)))))) .nil))))) ::
[]))
(.seq
(.block 0
(.loop
(.seq
(.seq
(.keep [0, 4, 5]
(.reg (oM 13 0 ::
oD 14 (.len (.t 13)) ::
oD 15 (.bin .gtr (.t 14) (cI 0)) ::
[])))
(.cond (.t 15)
.skip
(.exit 0)))
(.block 1
(.seq
(.keep [0, 4, 5]
(.reg (oD 17 (.sliceAll (.int .i64) 4 [(0, 1, (cI 2)), (1, 1, (cI 2)), (2, 1, (cI 4)), (3, 1, (cI 4))]) ::
oM 18 0 ::
oD 19 (.call false (.f 67) [(.t 17), (.t 18)]) ::
oM 16 19 ::
oD 20 (.extract (.t 16) 0) ::
oD 21 (.extract (.t 16) 1) ::
oM 6 20 ::
oM 7 21 ::
[])))
(.seq
(.seq
(.keep [0, 4, 5, 6, 7]
(.reg (oM 22 0 ::
oD 23 (.len (.t 22)) ::
oD 24 (.bin .lss (.t 23) (cI 16)) ::
oM 25 24 ::
oF 25 26 (.mov (.t 7)) ::
oF 25 27 (.bin .neq (.t 26) (cI 0)) ::
oD 28 (.pick (.t 25) cT (.t 27)) ::
[])))
(.cond (.t 28)
(.seq
(.keep []
(.reg (oD 2 (.nilrow (.cons (.int .u64) (.cons (.int .u64) (.cons (.int .u64) (.cons (.sl (.cons (.int .i64) (.cons (.int .u64) (.cons (.int .u64) (.cons (.cons (.int .i64) (.cons (.int .i64) (.cons .bool (.cons (.int .u64) (.cons (.sl (.int .u8)) (.cons (.sl (.int .u8)) .nil)))))) (.cons (.sl (.int .u8)) .nil)))))) .nil))))) ::
oD 3 (.mov (cI 1549)) ::
[])))
.ret)
.skip))
(.seq
(.keep [0, 4, 5, 6]
(.reg (oM 29 6 ::
oD 30 (.indexSl 1 (.t 29) (cI 0)) ::
oL 31 30 ::
oD 32 (.conv .i64 (.t 31)) ::
oM 8 32 ::
[])))
(.seq
(.seq
(.keep [0, 4, 5, 6, 8]
(.reg (oM 33 8 ::
oD 34 (.bin .lss (.t 33) (cI 16)) ::
oM 35 34 ::
oF 35 36 (.mov (.t 8)) ::
oF 35 37 (.bin .rem (.t 36) (cI 8)) ::
oF 35 38 (.bin .neq (.t 37) (cI 0)) ::
oD 39 (.pick (.t 35) cT (.t 38)) ::
oM 40 39 ::
oF 40 41 (.mov (.t 8)) ::
oF 40 42 (.mov (.t 0)) ::
oF 40 43 (.len (.t 42)) ::
oF 40 44 (.bin .gtr (.t 41) (.t 43)) ::
oD 45 (.pick (.t 40) cT (.t 44)) ::
oM 46 45 ::
oF 46 47 (.mov (.t 0)) ::
oF 46 48 (.slice 1 (.t 47) (some (cI 12)) (some (cI 16)) none) ::
oF 46 49 (.call false (.f 68) [(.t 48)]) ::
oF 46 50 (.bin .neq (.t 49) (.c (.int .u64 0))) ::
oD 51 (.pick (.t 46) cT (.t 50)) ::
[])))
(.cond (.t 51)
(.seq
(.keep []
(.reg (oD 2 (.nilrow (.cons (.int .u64) (.cons (.int .u64) (.cons (.int .u64) (.cons (.sl (.cons (.int .i64) (.cons (.int .u64) (.cons (.int .u64) (.cons (.cons (.int .i64) (.cons (.int .i64) (.cons .bool (.cons (.int .u64) (.cons (.sl (.int .u8)) (.cons (.sl (.int .u8)) .nil)))))) (.cons (.sl (.int .u8)) .nil)))))) .nil))))) ::
oD 3 (.mov (cI 1549)) ::
[])))
.ret)
.skip))
(.seq
(.keep [0, 4, 5, 6, 8]
(.reg (oM 53 0 ::
oM 54 8 ::
oD 55 (.slice 1 (.t 53) (some (cI 16)) (some (.t 54)) none) ::
oD 56 (.call false (.f 69) [(.t 55)]) ::
oM 52 56 ::
oD 57 (.extract (.t 52) 0) ::
oD 58 (.extract (.t 52) 1) ::
oM 9 57 ::
oM 10 58 ::
[])))
(.seq
(.seq
(.keep [0, 4, 5, 6, 8, 9, 10]
(.reg (oM 59 10 ::
oD 60 (.bin .neq (.t 59) (cI 0)) ::
[])))
(.cond (.t 60)
(.seq
(.reg (oM 61 10 ::
oD 2 (.nilrow (.cons (.int .u64) (.cons (.int .u64) (.cons (.int .u64) (.cons (.sl (.cons (.int .i64) (.cons (.int .u64) (.cons (.int .u64) (.cons (.cons (.int .i64) (.cons (.int .i64) (.cons .bool (.cons (.int .u64) (.cons (.sl (.int .u8)) (.cons (.sl (.int .u8)) .nil)))))) (.cons (.sl (.int .u8)) .nil)))))) .nil))))) ::
oM 3 61 ::
[]))
.ret)
.skip))
(.seq
(.keep [0, 4, 5, 6, 8, 9]
(.regD ((oM 62 5, []) ::
(oM 63 6, [0]) ::
(oD 64 (.indexSl 1 (.t 63) (cI 1)), [1]) ::
(oL 65 64, [2]) ::
(oM 66 6, [0, 0, 0, 0]) ::
(oD 67 (.indexSl 1 (.t 66) (cI 2)), [1, 0, 0, 0]) ::
(oL 68 67, [2, 0, 0, 0]) ::
(oM 69 6, [0, 0, 0, 0, 0, 0, 0]) ::
(oD 70 (.indexSl 1 (.t 69) (cI 3)), [1, 0, 0, 0, 0, 0, 0]) ::
(oL 71 70, [2, 0, 0, 0, 0, 0, 0]) ::
(oM 72 9, [0, 0, 0, 0, 0, 0, 0, 0, 0, 0]) ::
(oD 73 (.buildAll 4 [(0, 1, (.t 65)), (1, 1, (.t 68)), (2, 1, (.t 71)), (3, 1, (.t 72))]), [10]) ::
(oD 74 (.sliceAll (.cons (.int .u64) (.cons (.int .u64) (.cons (.int .u64) (.cons (.sl (.cons (.int .i64) (.cons (.int .u64) (.cons (.int .u64) (.cons (.cons (.int .i64) (.cons (.int .i64) (.cons .bool (.cons (.int .u64) (.cons (.sl (.int .u8)) (.cons (.sl (.int .u8)) .nil)))))) (.cons (.sl (.int .u8)) .nil)))))) .nil)))) 1 [(0, 4, (.t 73))]), [11]) ::
(oD 75 (.append (.cons (.int .u64) (.cons (.int .u64) (.cons (.int .u64) (.cons (.sl (.cons (.int .i64) (.cons (.int .u64) (.cons (.int .u64) (.cons (.cons (.int .i64) (.cons (.int .i64) (.cons .bool (.cons (.int .u64) (.cons (.sl (.int .u8)) (.cons (.sl (.int .u8)) .nil)))))) (.cons (.sl (.int .u8)) .nil)))))) .nil)))) 48 (.t 62) (.t 74)), []) ::
(oM 5 75, []) ::
[])))
(.keep [0, 4, 5, 8]
(.reg (oM 76 0 ::
oM 77 8 ::
oD 78 (.slice 1 (.t 76) (some (.t 77)) none none) ::
oM 0 78 ::
[]))))))))))))))
(.seq
(.seq
(.keep [4, 5]
(.reg (oM 79 4 ::
oD 80 (.bin .gtr (.t 79) (cI 65528)) ::
[])))
(.cond (.t 80)
(.seq
(.reg (oD 2 (.nilrow (.cons (.int .u64) (.cons (.int .u64) (.cons (.int .u64) (.cons (.sl (.cons (.int .i64) (.cons (.int .u64) (.cons (.int .u64) (.cons (.cons (.int .i64) (.cons (.int .i64) (.cons .bool (.cons (.int .u64) (.cons (.sl (.int .u8)) (.cons (.sl (.int .u8)) .nil)))))) (.cons (.sl (.int .u8)) .nil)))))) .nil))))) ::
oD 3 (.mov (cI 1549)) ::
[]))
.ret)
.skip))
(.seq
(.reg (oM 81 5 ::
oM 2 81 ::
oD 3 (.mov (cI 0)) ::
[]))
.ret))))))
def rd_r16_Decode : List RD := [.tmp 2 true (some (.cons (.int .u64) (.cons (.int .u64) (.cons (.int .u64) (.cons (.sl (.cons (.int .i64) (.cons (.int .u64) (.cons (.int .u64) (.cons (.cons (.int .i64) (.cons (.int .i64) (.cons .bool (.cons (.int .u64) (.cons (.sl (.int .u8)) (.cons (.sl (.int .u8)) .nil)))))) (.cons (.sl (.int .u8)) .nil)))))) .nil))))), .tmp 3 true none]
theorem ok_r16_Decode : fnOk Tryz.prog Tryz.f26 ir_r16_Decode rd_r16_Decode = true := by kernel_rfl
def S_r16_Decode : List AV → List Obj → Option (Prop × AV)
  | [.imm (.int .u8) b], [] => some ((b.length ≤ 60000, .tup [.imm (.cons (.int .u64) (.cons (.int .u64) (.cons (.int .u64) (.cons (.sl (.cons (.int .i64) (.cons (.int .u64) (.cons (.int .u64) (.cons (.cons (.int .i64) (.cons (.int .i64) (.cons .bool (.cons (.int .u64) (.cons (.sl (.int .u8)) (.cons (.sl (.int .u8)) .nil)))))) (.cons (.sl (.int .u8)) .nil)))))) .nil)))) (bdL b), .int .i64 (bdE b)]))
  | _, _ => none
theorem snd_r16_Decode : SoundS Tryz.prog 26 (RoF S_r16_Decode).sum := by
  refine ro_fn Tryz.func26 ok_r16_Decode (env_cons (s := RoF S_r01_Get) snd_r01_Get (env_cons (s := RoF S_r01_Value) snd_r01_Value (env_cons (s := RoF S_r13_Decode) snd_r13_Decode (env_nil _)))) fun args objs p v e => ?_
  unfold S_r16_Decode at e
  split at e
  · rename_i b
    cases e
    refine ⟨rfl, fun hw ho hp => ?_⟩
    change List Int at b
    have hb : ∀ x ∈ (b : List Int), (0 : Int) ≤ x ∧ x ≤ 255 := fun x hx => (hw (.imm (.int .u8) b) (by simp)).1 x hx
    clear hw ho
    repeat' (intro t ht; first | (cases t <;> first | (cases ht; done) | ((try simp only [bn_s] at ht); (try simp only [nd_s] at ht))) | (refine ht ?_ ?_ <;> clear ht) | (refine ht.1 ?_ ?_ <;> clear ht) | (refine ht ?_; clear ht))
    all_goals first
      | exact True.intro
      | (intro r h1 h2; clear h1; refine h2 ⟨[0, 4, 5], List BK × List Int, (fun a => 16 * a.1.length + a.2.length ≤ b.length ∧ (∀ x ∈ a.2, 0 ≤ x ∧ x ≤ 255) ∧ (bG b).1 = a.1 ++ (bG a.2).1 ∧ (bG b).2.1 = (bG a.2).2.1), fun a => [.imm (.int .u8) a.2, .int .i64 b.length, .own 0], fun a => [.row false (.cons (.int .u64) (.cons (.int .u64) (.cons (.int .u64) (.cons (.sl (.cons (.int .i64) (.cons (.int .u64) (.cons (.int .u64) (.cons (.cons (.int .i64) (.cons (.int .i64) (.cons .bool (.cons (.int .u64) (.cons (.sl (.int .u8)) (.cons (.sl (.int .u8)) .nil)))))) (.cons (.sl (.int .u8)) .nil)))))) .nil)))) a.1], fun a => a.2.length, ⟨([], b), ⟨by simp, hb, rfl, rfl⟩, rfl, rfl⟩, ?_⟩; clear h2)
      | trace_state
    rintro ⟨acc, y⟩ ⟨j1, j2, j3, j4⟩
    dsimp only at j1 j2 j3 j4
    by_cases h16 : y.length < 16
    · by_cases hy0 : y.length = 0
      · rw [bG_nil hy0] at j3 j4
        dsimp only at j3 j4
        rw [List.append_nil] at j3
        obtain ⟨b1, b2⟩ := bd_end j3 j4
        repeat' (intro t ht; first | (cases t <;> first | (cases ht; done) | ((try simp only [bn_s] at ht); (try simp only [nd_s] at ht); (try (exfalso; first | contradiction | omega)))) | (refine ht ?_ ?_ <;> clear ht) | (refine ht.1 ?_ ?_ <;> clear ht) | (refine ht ?_; clear ht))
        all_goals first
          | exact True.intro
          | (obtain ⟨e1, e2⟩ := b1 (by omega); rw [e1, e2]; exact ⟨rfl, by first | rfl | exact True.intro⟩)
          | (obtain ⟨e1, e2⟩ := b2 (by omega); rw [e1, e2]; exact ⟨rfl, by first | rfl | exact True.intro⟩)
          | skip
      · have hK : btK y = false := by unfold btK; rw [decide_eq_false (show ¬ 16 ≤ y.length by omega)]; rfl
        have hE : btE y = 1549 := if_neg (by rw [hK]; decide)
        rw [bG_bad hy0 (by rw [hE]; decide), hE] at j4
        obtain ⟨e1, e2⟩ := bd_bad j4 (show ¬ (1549 : Int) = 0 by decide)
        repeat' (intro t ht; first | (cases t <;> first | (cases ht; done) | ((try simp only [bn_s] at ht); (try simp only [nd_s] at ht); (try (exfalso; first | contradiction | omega)))) | (refine ht ?_ ?_ <;> clear ht) | (refine ht.1 ?_ ?_ <;> clear ht) | (refine ht ?_; clear ht))
        all_goals first
          | exact True.intro
          | (rw [e1, e2]; exact ⟨rfl, by first | rfl | exact True.intro⟩)
          | skip
    · obtain ⟨g1, g2⟩ := get44 (y := y) (by omega)
      have hN := numL_le (y.take 2) fun x hx => j2 x (List.mem_of_mem_take hx)
      have hN2 : (256 : Int) ^ (y.take 2).length = 65536 := by rw [List.length_take, show min 2 y.length = 2 by omega]; rfl
      rw [hN2] at hN
      have hy0 : ¬ y.length = 0 := by omega
      have g0 : ∀ (a c d e z : Int), [a, c, d, e].getD (Int.toNat 0) z = a := fun _ _ _ _ _ => rfl
      have g5 : ∀ (a c d e z : Int), [a, c, d, e].getD (Int.toNat 1) z = c := fun _ _ _ _ _ => rfl
      have g6 : ∀ (a c d e z : Int), [a, c, d, e].getD (Int.toNat 2) z = d := fun _ _ _ _ _ => rfl
      have g7 : ∀ (a c d e z : Int), [a, c, d, e].getD (Int.toNat 3) z = e := fun _ _ _ _ _ => rfl
      have gl : ∀ (a c d e : Int), ((([a, c, d, e]).length : Nat) : Int) = 4 := fun _ _ _ _ => rfl
      have hZ : numL ((y.take (Int.toNat 16)).drop (Int.toNat 12)) = 0 ↔ zeroL ((y.drop 12).take 4) = true := by
        rw [show (y.take (Int.toNat 16)).drop (Int.toNat 12) = (y.drop 12).take 4 from List.drop_take]
        exact num_zero fun x hx => (j2 x (List.mem_of_mem_drop (List.mem_of_mem_take hx))).1
      have hZl : ((y.take (Int.toNat 16)).drop (Int.toNat 12)).length ≤ 8 := by rw [List.length_drop, List.length_take]; show min 16 y.length - 12 ≤ 8; omega
      cases hK : btK y with
      | false =>
        have hE : btE y = 1549 := if_neg (by rw [hK]; decide)
        rw [bG_bad hy0 (by rw [hE]; decide), hE] at j4
        obtain ⟨e1, e2⟩ := bd_bad j4 (show ¬ (1549 : Int) = 0 by decide)
        rw [e1, e2]
        have hno : ¬ (16 ≤ numL (y.take 2) ∧ (numL (y.take 2)).tmod 8 = 0 ∧ numL (y.take 2) ≤ y.length ∧ numL ((y.take (Int.toNat 16)).drop (Int.toNat 12)) = 0) := fun h => by
          unfold btK btN at hK
          rw [hZ.1 h.2.2.2, decide_eq_true (show 16 ≤ y.length by omega), decide_eq_true h.1, decide_eq_true h.2.1, decide_eq_true h.2.2.1] at hK
          cases hK
        repeat' (intro t ht; first | (cases t <;> first | (cases ht; done) | ((try simp only [bn_s] at ht); (try simp only [nd_s] at ht))) | (refine ht ?_ ?_ <;> clear ht) | (refine ht.1 ?_ ?_ <;> clear ht) | (refine ht ?_; clear ht))
        all_goals (try simp only [g1, g2, g0, g5, g6, g7, gl, nd_s] at *)
        all_goals first
          | exact True.intro
          | contradiction
          | exact hZl
          | omega
          | exact ⟨rfl, by first | rfl | exact True.intro⟩
          | (constructor <;> omega)
          | ((try simp only [nd_s, bn_s, mm_s] at *); omega)
          | (exfalso; apply hno; refine ⟨?_, ?_, ?_, ?_⟩ <;> first | assumption | omega)
          | (refine ⟨?_, ?_, ?_⟩ <;> omega)
          | skip
      | true =>
        obtain ⟨q1, q2, q3, q4, q5⟩ := btK_parts hK
        have hz0 := hZ.2 q2
        have hA : (y.take (btN y).toNat).drop (Int.toNat 16) = btA y := rfl
        have hAl : (btA y).length ≤ 100000 := by unfold btA; rw [List.length_drop, List.length_take]; omega
        have hE : btE y = adE (btA y) := if_pos hK
        have hNe : numL (y.take 2) = btN y := rfl
        rw [hNe] at g1 hN
        by_cases h5 : adE (btA y) = 0
        · have hV : btV y = (numL ((y.drop 2).take 2), numL ((y.drop 4).take 4), numL ((y.drop 8).take 4), adL (btA y), ()) := if_pos hK
          rw [bG_ok hy0 (hE.trans h5)] at j3 j4
          dsimp only at j3 j4
          repeat' (intro t ht; first | (cases t <;> first | (cases ht; done) | ((try simp only [bn_s] at ht); (try simp only [nd_s] at ht))) | (refine ht ?_ ?_ <;> clear ht) | (refine ht.1 ?_ ?_ <;> clear ht) | (refine ht ?_; clear ht))
          all_goals (try simp only [g1, g2, g0, g5, g6, g7, gl, nd_s, hz0, hA, h5] at *)
          all_goals first
            | exact True.intro
            | contradiction
            | exact hZl
            | exact hAl
            | omega
            | exact ⟨rfl, by first | rfl | exact True.intro⟩
            | (constructor <;> omega)
            | ((try simp only [nd_s, bn_s, mm_s] at *); omega)
            | (refine ⟨?_, ?_, ?_⟩ <;> omega)
            | (simp only [List.length_cons, List.length_nil]; constructor <;> omega)
            | (refine ⟨(acc ++ [btV y], y.drop (btN y).toNat), ⟨?_, fun x hx => j2 x (List.mem_of_mem_drop hx), ?_, j4⟩, ?_, rfl, ?_⟩
               · simp only [List.length_append, List.length_cons, List.length_nil, List.length_drop]; omega
               · dsimp only; rw [j3, List.append_assoc]; rfl
               · dsimp only; rw [List.length_drop]; omega
               · rw [hV])
            | skip
        · rw [bG_bad hy0 (by rw [hE]; exact h5), hE] at j4
          obtain ⟨e1, e2⟩ := bd_bad j4 h5
          rw [e1, e2]
          repeat' (intro t ht; first | (cases t <;> first | (cases ht; done) | ((try simp only [bn_s] at ht); (try simp only [nd_s] at ht))) | (refine ht ?_ ?_ <;> clear ht) | (refine ht.1 ?_ ?_ <;> clear ht) | (refine ht ?_; clear ht))
          all_goals (try simp only [g1, g2, g0, g5, g6, g7, gl, nd_s, hz0, hA] at *)
          all_goals first
            | exact True.intro
            | contradiction
            | exact hZl
            | exact hAl
            | omega
            | exact ⟨rfl, by first | rfl | exact True.intro⟩
            | (constructor <;> omega)
            | ((try simp only [nd_s, bn_s, mm_s] at *); omega)
            | (refine ⟨?_, ?_, ?_⟩ <;> omega)
            | skip
  · cases e
def smB (x y : BK) : Bool := decide (x.1 = y.1) && decide (x.2.1 = y.2.1) && decide (x.2.2.1 = y.2.2.1) && decide (x.2.2.2.1 = y.2.2.2.1)
theorem smB_t {x y : BK} (h : smB x y = true) : x = y := by
  obtain ⟨a, b, c, d, _⟩ := x
  obtain ⟨a', b', c', d', _⟩ := y
  unfold smB at h
  simp only [Bool.and_eq_true, decide_eq_true_eq] at h
  obtain ⟨⟨⟨h1, h2⟩, h3⟩, h4⟩ := h
  rw [h1, h2, h3, h4]
theorem ne_or {x y : BK} (h : ¬ (x.1 = y.1 ∧ x.2.1 = y.2.1 ∧ x.2.2.1 = y.2.2.1 ∧ x.2.2.2.1 = y.2.2.2.1)) : ¬ x = y := fun e => h (by rw [e]; exact ⟨rfl, rfl, rfl, rfl⟩)
theorem eq_of4 {x y : BK} (h : x.1 = y.1 ∧ x.2.1 = y.2.1 ∧ x.2.2.1 = y.2.2.1 ∧ x.2.2.2.1 = y.2.2.2.1) : x = y := smB_t (by unfold smB; rw [h.1, h.2.1, h.2.2.1, h.2.2.2]; simp)
def ir_r16_Same : IR :=
(.seq
(.keep [0, 1]
(.reg (oD 4 (.mov cF) ::
[])))
(.seq
(.seq
(.keep [0, 1]
(.reg (oM 8 0 ::
oD 9 (.len (.t 8)) ::
oM 10 1 ::
oD 11 (.len (.t 10)) ::
oD 12 (.bin .neq (.t 9) (.t 11)) ::
[])))
(.cond (.t 12)
(.seq
(.reg (oD 4 (.mov cF) ::
[]))
.ret)
.skip))
(.seq
(.seq
(.keep [0, 1]
(.reg (oD 5 (.mov (cI 0)) ::
[])))
(.block 0
(.loop
(.seq
(.seq
(.keep [0, 1, 5]
(.reg (oM 13 5 ::
oM 14 0 ::
oD 15 (.len (.t 14)) ::
oD 16 (.bin .lss (.t 13) (.t 15)) ::
[])))
(.cond (.t 16)
.skip
(.exit 0)))
(.seq
(.block 1
(.seq
(.keep [0, 1, 5]
(.regD ((oM 19 0, []) ::
(oM 20 5, [0]) ::
(oD 21 (.indexSl 4 (.t 19) (.t 20)), []) ::
(oD 22 (.load (some 4) (.t 21)), []) ::
(oM 23 1, [0, 0, 0, 0]) ::
(oM 24 5, [0, 0, 0, 0, 0]) ::
(oD 25 (.indexSl 4 (.t 23) (.t 24)), [2, 0, 0, 0]) ::
(oD 26 (.load (some 4) (.t 25)), [3, 0, 0, 0]) ::
(oD 6 (.box [.int .u64 0, .int .u64 0, .int .u64 0, .imm (.cons (.int .i64) (.cons (.int .u64) (.cons (.int .u64) (.cons (.cons (.int .i64) (.cons (.int .i64) (.cons .bool (.cons (.int .u64) (.cons (.sl (.int .u8)) (.cons (.sl (.int .u8)) .nil)))))) (.cons (.sl (.int .u8)) .nil))))) []]), [0, 0, 0, 0, 0, 0, 0, 0]) ::
(oD 7 (.box [.int .u64 0, .int .u64 0, .int .u64 0, .imm (.cons (.int .i64) (.cons (.int .u64) (.cons (.int .u64) (.cons (.cons (.int .i64) (.cons (.int .i64) (.cons .bool (.cons (.int .u64) (.cons (.sl (.int .u8)) (.cons (.sl (.int .u8)) .nil)))))) (.cons (.sl (.int .u8)) .nil))))) []]), [0, 0, 0, 0, 0, 0, 0, 0, 0]) ::
(oN (.store 4 (.t 6) (.t 22)), [2, 0, 0, 0]) ::
(oN (.store 4 (.t 7) (.t 26)), []) ::
[])))
(.seq
(.keep [0, 1, 5, 6, 7]
(.reg (oD 27 (.fieldAddr 0 (.t 6)) ::
oL 28 27 ::
oD 29 (.fieldAddr 0 (.t 7)) ::
oL 30 29 ::
oD 31 (.bin .eql (.t 28) (.t 30)) ::
oM 32 31 ::
oT 32 33 (.fieldAddr 1 (.t 6)) ::
oT 32 34 (.load none (.t 33)) ::
oT 32 35 (.fieldAddr 1 (.t 7)) ::
oT 32 36 (.load none (.t 35)) ::
oT 32 37 (.bin .eql (.t 34) (.t 36)) ::
oD 38 (.pick (.t 32) (.t 37) cF) ::
oM 39 38 ::
oT 39 40 (.fieldAddr 2 (.t 6)) ::
oT 39 41 (.load none (.t 40)) ::
oT 39 42 (.fieldAddr 2 (.t 7)) ::
oT 39 43 (.load none (.t 42)) ::
oT 39 44 (.bin .eql (.t 41) (.t 43)) ::
oD 45 (.pick (.t 39) (.t 44) cF) ::
oM 46 45 ::
oT 46 47 (.fieldAddr 3 (.t 6)) ::
oT 46 48 (.load none (.t 47)) ::
oT 46 49 (.fieldAddr 3 (.t 7)) ::
oT 46 50 (.load none (.t 49)) ::
oT 46 51 (.call false (.f 70) [(.t 48), (.t 50)]) ::
oD 52 (.pick (.t 46) (.t 51) cF) ::
oD 53 (.un .not (.t 52)) ::
[])))
(.cond (.t 53)
(.seq
(.keep []
(.reg (oD 4 (.mov cF) ::
[])))
.ret)
.skip))))
(.keep [0, 1, 5]
(.reg (oM 17 5 ::
oD 18 (.bin .add (.t 17) (cI 1)) ::
oM 5 18 ::
[]))))))))
(.seq
(.keep []
(.reg (oD 4 (.mov cT) ::
[])))
.ret))))
def rd_r16_Same : List RD := [.tmp 4 true none]
theorem ok_r16_Same : fnOk Tryz.prog Tryz.f27 ir_r16_Same rd_r16_Same = true := by kernel_rfl
def S_r16_Same : List AV → List Obj → Option (Prop × AV)
  | [.imm (.cons (.int .u64) (.cons (.int .u64) (.cons (.int .u64) (.cons (.sl (.cons (.int .i64) (.cons (.int .u64) (.cons (.int .u64) (.cons (.cons (.int .i64) (.cons (.int .i64) (.cons .bool (.cons (.int .u64) (.cons (.sl (.int .u8)) (.cons (.sl (.int .u8)) .nil)))))) (.cons (.sl (.int .u8)) .nil)))))) .nil)))) a, .imm (.cons (.int .u64) (.cons (.int .u64) (.cons (.int .u64) (.cons (.sl (.cons (.int .i64) (.cons (.int .u64) (.cons (.int .u64) (.cons (.cons (.int .i64) (.cons (.int .i64) (.cons .bool (.cons (.int .u64) (.cons (.sl (.int .u8)) (.cons (.sl (.int .u8)) .nil)))))) (.cons (.sl (.int .u8)) .nil)))))) .nil)))) b], [] => some ((True, .bool (decide ((a : List BK) = b))))
  | _, _ => none
theorem snd_r16_Same : SoundS Tryz.prog 27 (RoF S_r16_Same).sum := by
  refine ro_fn Tryz.func27 ok_r16_Same (env_cons (s := RoF S_r13_Same) snd_r13_Same (env_nil _)) fun args objs p v e => ?_
  unfold S_r16_Same at e
  split at e
  · rename_i a b
    cases e
    refine ⟨rfl, fun hw ho hp => ?_⟩
    change List BK at a
    change List BK at b
    have hl : a.length ≤ maxLen := (hw (.imm (.cons (.int .u64) (.cons (.int .u64) (.cons (.int .u64) (.cons (.sl (.cons (.int .i64) (.cons (.int .u64) (.cons (.int .u64) (.cons (.cons (.int .i64) (.cons (.int .i64) (.cons .bool (.cons (.int .u64) (.cons (.sl (.int .u8)) (.cons (.sl (.int .u8)) .nil)))))) (.cons (.sl (.int .u8)) .nil)))))) .nil)))) a) (by simp)).2
    unfold maxLen at hl
    clear hw ho
    repeat' (intro t ht; first | (cases t <;> first | (cases ht; done) | ((try simp only [bn_s] at ht); (try simp only [nd_s] at ht))) | (refine ht ?_ ?_ <;> clear ht) | (refine ht.1 ?_ ?_ <;> clear ht) | (refine ht ?_; clear ht))
    all_goals first
      | (have hne : a ≠ b := fun h => (by assumption : ¬ (a.length : Int) = b.length) (by rw [h])
         refine ⟨?_, rfl⟩; rw [decide_eq_false hne]; done)
      | (intro r h1 h2; clear h1; refine h2 ⟨[0, 1, 5], Nat, (fun i => i ≤ a.length ∧ a.take i = b.take i), fun i => [.imm (.cons (.int .u64) (.cons (.int .u64) (.cons (.int .u64) (.cons (.sl (.cons (.int .i64) (.cons (.int .u64) (.cons (.int .u64) (.cons (.cons (.int .i64) (.cons (.int .i64) (.cons .bool (.cons (.int .u64) (.cons (.sl (.int .u8)) (.cons (.sl (.int .u8)) .nil)))))) (.cons (.sl (.int .u8)) .nil)))))) .nil)))) a, .imm (.cons (.int .u64) (.cons (.int .u64) (.cons (.int .u64) (.cons (.sl (.cons (.int .i64) (.cons (.int .u64) (.cons (.int .u64) (.cons (.cons (.int .i64) (.cons (.int .i64) (.cons .bool (.cons (.int .u64) (.cons (.sl (.int .u8)) (.cons (.sl (.int .u8)) .nil)))))) (.cons (.sl (.int .u8)) .nil)))))) .nil)))) b, .int .i64 i], fun _ => [], fun i => a.length - i, ⟨0, ⟨Nat.zero_le _, rfl⟩, rfl, rfl⟩, ?_⟩; clear h2)
    rintro i ⟨hi, he⟩
    have hl2 : a.length = b.length := by omega
    repeat' (intro t ht; first | (cases t <;> first | (cases ht; done) | ((try simp only [bn_s] at ht); (try simp only [nd_s] at ht); (try (exfalso; first | contradiction | omega)))) | (refine ht ?_ ?_ <;> clear ht) | (refine ht.1 ?_ ?_ <;> clear ht) | (refine ht ?_; clear ht))
    all_goals (try generalize (Ty.dflt (.cons (.int .u64) (.cons (.int .u64) (.cons (.int .u64) (.cons (.sl (.cons (.int .i64) (.cons (.int .u64) (.cons (.int .u64) (.cons (.cons (.int .i64) (.cons (.int .i64) (.cons .bool (.cons (.int .u64) (.cons (.sl (.int .u8)) (.cons (.sl (.int .u8)) .nil)))))) (.cons (.sl (.int .u8)) .nil)))))) .nil))))) = od at *)
    all_goals first
      | exact True.intro
      | ((try simp only [nd_s, bn_s, mm_s] at *); omega)
      | (have e := tkAll he (by omega) hl2
         refine ⟨?_, rfl⟩; rw [decide_eq_true e]; done)
      | (have hne : a ≠ b := tkNe (d := od) (i := i) (ne_or fun h => by simp_all)
         refine ⟨?_, rfl⟩; rw [decide_eq_false hne]; done)
      | (have hs : a.getD i od = b.getD i od := eq_of4 (by simp_all)
         exact ⟨i + 1, ⟨by omega, tkStep he (by omega) hl2 (d := od) hs⟩, by (try simp only [nd_s, bn_s, mm_s] at *); omega, rfl, rfl⟩)
      | skip
  · cases e
end Go.Eng
namespace Go.Eng
open Go.Proofs
set_option linter.unusedVariables false
set_option linter.unusedSimpArgs false
set_option maxRecDepth 100000
set_option maxHeartbeats 1000000
theorem bG_all : ∀ (n : Nat) (y : List Int), y.length ≤ n → (bG y).2.1 = 0 → (bG y).2.2 = y.length
  | 0, y, hn, _ => by rw [bG_nil (by omega)]; show (0 : Int) = y.length; omega
  | n + 1, y, hn, h => by
    by_cases h0 : y.length = 0
    · rw [bG_nil h0]; show (0 : Int) = y.length; omega
    · by_cases h1 : btE y = 0
      · have hk := btK_parts (btE_K h1)
        rw [bG_ok h0 h1] at h ⊢
        have ih := bG_all n (y.drop (btN y).toNat) (by rw [List.length_drop]; omega) h
        show btN y + (bG (y.drop (btN y).toNat)).2.2 = y.length
        rw [ih, List.length_drop]; omega
      · rw [bG_bad h0 h1] at h; exact absurd h h1
theorem bd_all {y : List Int} (h : bdE y = 0) : (bG y).2.2 = y.length := by
  refine bG_all y.length y (Nat.le_refl _) ?_
  unfold bdE at h
  exact Classical.byContradiction fun hn => by rw [if_pos hn] at h; exact hn h
def S16 : List Int := [0, 16, 0, 1, 0, 0, 0, 0, 0, 0, 0, 0, 0, 0, 0, 0]
def S16x : BK := (1, 0, 0, [], ())
theorem ad0 : adL [] = [] ∧ adE [] = 0 := (ad_end (alG_nil rfl)).2 (by decide)
theorem s16k : btK S16 = true ∧ btN S16 = 16 ∧ btA S16 = [] ∧ numL ((S16.drop 2).take 2) = 1 ∧ numL ((S16.drop 4).take 4) = 0 ∧ numL ((S16.drop 8).take 4) = 0 ∧ btK (S16.take 15) = false ∧ rgL [] = true ∧ putK w5 (bkN S16x) = true ∧ putB w5 (bkN S16x) = S16 ∧ chR [S16x] 5 = 0 ∧ chR [] 5 = -1 := by decide +kernel
theorem s16d : bdE S16 = 0 ∧ bdL S16 = [S16x] ∧ bdE (S16.take 15) = 1549 ∧ bkL [S16x] = S16 ∧ bkE [S16x] = 0 ∧ chR [S16x] 5 = 0 ∧ chR [] 5 = -1 ∧ okB [S16x] := by
  obtain ⟨k1, k2, k3, k4, k5, k6, k7, k8, k9, ka, kb, kc⟩ := s16k
  have e1 : btE S16 = 0 := by unfold btE; rw [if_pos k1, k3]; exact ad0.2
  have e2 : btV S16 = S16x := by unfold btV; rw [if_pos k1, k3, k4, k5, k6, ad0.1]; rfl
  have hl : ¬ S16.length = 0 := by decide
  have hb := bG_ok hl e1
  rw [k2, e2] at hb
  have hn : bG (S16.drop (Int.toNat 16)) = ([], 0, 0) := bG_nil rfl
  rw [hn] at hb
  obtain ⟨g1, g2⟩ := (bd_end (b := S16) (acc := [S16x]) (by rw [hb]) (by rw [hb])).2 (by decide)
  have e3 : btE (S16.take 15) = 1549 := if_neg (by rw [k7]; decide)
  have hb2 := bG_bad (y := S16.take 15) (by decide) (by rw [e3]; decide)
  rw [e3] at hb2
  obtain ⟨_, g4⟩ := bd_bad (b := S16.take 15) (e := 1549) (by rw [hb2]) (by decide)
  have hbf : bbF S16x = some S16 := by
    unfold bbF
    have h1 : rgL S16x.2.2.2.1 = true := k8
    rw [if_pos ⟨h1, k9⟩, ka]; rfl
  have hba : bbA [S16x] [] = some S16 := by
    show (match bbF S16x with | some y => bbA [] ([] ++ y) | none => none) = _
    rw [hbf]; rfl
  obtain ⟨g5, g6⟩ := (bk_some hba).1 (by decide)
  exact ⟨g2, g1, g4, g5, g6, kb, kc, ⟨fun o ho => by rw [List.mem_singleton.1 ho]; exact ⟨fun a ha => (by cases ha), by decide⟩, by decide⟩⟩
def pre (l : List BK) (i : Nat) : Int := ((l.take i).map (·.1)).sum
structure smW (l : List BK) : Prop where
  w : ∀ o ∈ l, 0 ≤ o.1 ∧ o.1 ≤ 11
  n : l.length ≤ 12
end Go.Eng
namespace Go.Eng
open Go.Proofs
set_option linter.unusedVariables false
set_option linter.unusedSimpArgs false
set_option maxRecDepth 100000
set_option maxHeartbeats 1000000
def ir_l16_sure : IR :=
(.seq
(.keep []
(.reg (oD 0 (.mov cF) ::
[])))
(.seq
(.reg (oD 8 (.sliceAll (.int .u8) 16 [(0, 1, (.c (.int .u8 0))), (1, 1, (.c (.int .u8 16))), (2, 1, (.c (.int .u8 0))), (3, 1, (.c (.int .u8 1))), (4, 1, (.c (.int .u8 0))), (5, 1, (.c (.int .u8 0))), (6, 1, (.c (.int .u8 0))), (7, 1, (.c (.int .u8 0))), (8, 1, (.c (.int .u8 0))), (9, 1, (.c (.int .u8 0))), (10, 1, (.c (.int .u8 0))), (11, 1, (.c (.int .u8 0))), (12, 1, (.c (.int .u8 0))), (13, 1, (.c (.int .u8 0))), (14, 1, (.c (.int .u8 0))), (15, 1, (.c (.int .u8 0)))]) ::
oM 1 8 ::
[]))
(.seq
(.keep [1]
(.reg (oM 10 1 ::
oD 11 (.call false (.f 25) [(.t 10)]) ::
oM 9 11 ::
oD 12 (.extract (.t 9) 0) ::
oD 13 (.extract (.t 9) 1) ::
oM 2 12 ::
oM 3 13 ::
[])))
(.seq
(.keep [1, 2, 3]
(.reg (oM 15 1 ::
oD 16 (.slice 1 (.t 15) none (some (cI 15)) none) ::
oD 17 (.call false (.f 25) [(.t 16)]) ::
oM 14 17 ::
oD 18 (.extract (.t 14) 0) ::
oD 19 (.extract (.t 14) 1) ::
oM 4 18 ::
oM 5 19 ::
[])))
(.seq
(.keep [1, 2, 3, 5]
(.reg (oM 21 2 ::
oD 22 (.call false (.f 36) [(.t 21)]) ::
oM 20 22 ::
oD 23 (.extract (.t 20) 0) ::
oD 24 (.extract (.t 20) 1) ::
oM 6 23 ::
oM 7 24 ::
[])))
(.seq
(.keep [1, 2, 3, 5, 6, 7]
(.reg (oM 25 3 ::
oD 26 (.bin .eql (.t 25) (cI 0)) ::
oM 27 26 ::
oT 27 28 (.mov (.t 2)) ::
oT 27 29 (.len (.t 28)) ::
oT 27 30 (.bin .eql (.t 29) (cI 1)) ::
oD 31 (.pick (.t 27) (.t 30) cF) ::
oM 32 31 ::
oT 32 33 (.mov (.t 2)) ::
oT 32 34 (.indexSl 4 (.t 33) (cI 0)) ::
oT 32 35 (.fieldAddr 0 (.t 34)) ::
oT 32 36 (.load none (.t 35)) ::
oT 32 37 (.bin .eql (.t 36) (.c (.int .u64 1))) ::
oD 38 (.pick (.t 32) (.t 37) cF) ::
oM 39 38 ::
oT 39 40 (.mov (.t 5)) ::
oT 39 41 (.bin .eql (.t 40) (cI 1549)) ::
oD 42 (.pick (.t 39) (.t 41) cF) ::
oM 43 42 ::
oT 43 44 (.mov (.t 7)) ::
oT 43 45 (.bin .eql (.t 44) (cI 0)) ::
oD 46 (.pick (.t 43) (.t 45) cF) ::
oM 47 46 ::
oT 47 48 (.mov (.t 6)) ::
oT 47 49 (.mov (.t 1)) ::
oT 47 50 (.call false (.f 20) [(.t 48), (.t 49)]) ::
oD 51 (.pick (.t 47) (.t 50) cF) ::
oM 52 51 ::
oT 52 53 (.mov (.t 2)) ::
oT 52 54 (.call false (.f 33) [(.t 53), (.c (.int .u64 5))]) ::
oT 52 55 (.bin .eql (.t 54) (cI 0)) ::
oD 56 (.pick (.t 52) (.t 55) cF) ::
oM 57 56 ::
oT 57 58 (.call false (.f 33) [(.c (.imm (.cons (.int .u64) (.cons (.int .u64) (.cons (.int .u64) (.cons (.sl (.cons (.int .i64) (.cons (.int .u64) (.cons (.int .u64) (.cons (.cons (.int .i64) (.cons (.int .i64) (.cons .bool (.cons (.int .u64) (.cons (.sl (.int .u8)) (.cons (.sl (.int .u8)) .nil)))))) (.cons (.sl (.int .u8)) .nil)))))) .nil)))) [])), (.c (.int .u64 5))]) ::
oT 57 59 (.bin .eql (.t 58) (cI (-1))) ::
oD 60 (.pick (.t 57) (.t 59) cF) ::
oM 0 60 ::
[])))
.ret))))))
def rd_l16_sure : List RD := [.tmp 0 true none]
theorem ok_l16_sure : fnOk Tryz.prog Tryz.f24 ir_l16_sure rd_l16_sure = true := by kernel_rfl
def S_l16_sure : List AV → List Obj → Option (Prop × AV)
  | [], [] => some ((True, .bool true))
  | _, _ => none
theorem snd_l16_sure : SoundS Tryz.prog 24 (RoF S_l16_sure).sum := by
  refine ro_fn Tryz.func24 ok_l16_sure (env_cons (s := RoF S_bucket_Decode) snd_bucket_Decode (env_cons (s := RoF S_bucket_Encode) snd_bucket_Encode (env_cons (s := RoF S_r01_Bytes) snd_r01_Bytes (env_cons (s := RoF S_bucket_Choose) snd_bucket_Choose (env_nil _))))) fun args objs p v e => ?_
  unfold S_l16_sure at e
  split at e
  · cases e
    refine ⟨rfl, fun hw ho hp => ?_⟩
    clear hw ho
    obtain ⟨e1, e2, e3, e4, e5, e6, e7, e8⟩ := s16d
    unfold S16 at e1 e2 e3 e4
    repeat' (intro t ht; first | (cases t <;> first | (cases ht; done) | ((try simp only [bn_s] at ht); (try simp only [nd_s] at ht))) | (refine ht ?_ ?_ <;> clear ht) | (refine ht.1 ?_ ?_ <;> clear ht) | (refine ht ?_; clear ht))
    all_goals (try simp only [e1, e2, e3, e4, e5, e6, e7, show Int.toNat 15 = 15 from rfl] at *)
    all_goals first
      | exact True.intro
      | exact e8
      | exact (by decide)
      | contradiction
      | exact ⟨rfl, by first | rfl | exact True.intro⟩
      | skip
  · cases e
def ir_l16_BucketDecodes : IR :=
(.seq
(.keep [0, 1]
(.reg (oD 4 (.mov cF) ::
[])))
(.seq
(.seq
(.keep [0, 1]
(.reg (oM 11 0 ::
oD 12 (.len (.t 11)) ::
oD 13 (.bin .gtr (.t 12) (cI 1500)) ::
oM 14 13 ::
oF 14 15 (.mov (.t 1)) ::
oF 14 16 (.len (.t 15)) ::
oF 14 17 (.bin .gtr (.t 16) (cI 100)) ::
oD 18 (.pick (.t 14) cT (.t 17)) ::
[])))
(.cond (.t 18)
(.seq
(.keep []
(.reg (oD 19 (.call false (.f 24) []) ::
oM 4 19 ::
[])))
.ret)
.skip))
(.seq
(.keep [0, 1]
(.reg (oM 21 0 ::
oD 22 (.call false (.f 25) [(.t 21)]) ::
oM 20 22 ::
oD 23 (.extract (.t 20) 0) ::
oD 24 (.extract (.t 20) 1) ::
oM 5 23 ::
oM 6 24 ::
[])))
(.seq
(.keep [0, 1, 5, 6]
(.reg (oM 26 0 ::
oD 27 (.call false (.f 26) [(.t 26)]) ::
oM 25 27 ::
oD 28 (.extract (.t 25) 0) ::
oD 29 (.extract (.t 25) 1) ::
oM 7 28 ::
oM 8 29 ::
[])))
(.seq
(.seq
(.keep [0, 1, 5, 6, 7, 8]
(.reg (oM 30 5 ::
oM 31 7 ::
oD 32 (.call false (.f 27) [(.t 30), (.t 31)]) ::
oD 33 (.un .not (.t 32)) ::
oM 34 33 ::
oF 34 35 (.mov (.t 6)) ::
oF 34 36 (.mov (.t 8)) ::
oF 34 37 (.bin .neq (.t 35) (.t 36)) ::
oD 38 (.pick (.t 34) cT (.t 37)) ::
[])))
(.cond (.t 38)
(.seq
(.keep []
(.reg (oD 4 (.mov cF) ::
[])))
.ret)
.skip))
(.seq
(.keep [0, 1, 7, 8]
(.reg (oD 39 (.slice0 (.int .u8)) ::
oM 40 1 ::
oD 41 (.append (.int .u8) 1 (.t 39) (.t 40)) ::
oM 42 0 ::
oD 43 (.append (.int .u8) 1 (.t 41) (.t 42)) ::
oD 44 (.call false (.f 28) [(.t 43), (cI 263), (cI 269)]) ::
oM 9 44 ::
[])))
(.seq
(.keep [1, 7, 8, 9]
(.reg (oM 45 9 ::
oM 46 1 ::
oD 47 (.len (.t 46)) ::
oD 48 (.call false (.f 29) [(.t 45), (.t 47)]) ::
[])))
(.seq
(.reg (oM 49 9 ::
oD 50 (.call false (.f 30) [(.t 49)]) ::
oM 10 50 ::
[]))
(.seq
(.keep [7, 8, 9, 10]
(.reg (oM 51 10 ::
oM 52 7 ::
oD 53 (.call false (.f 27) [(.t 51), (.t 52)]) ::
oM 54 53 ::
oT 54 55 (.mov (.t 9)) ::
oT 54 56 (.call false (.f 31) [(.t 55)]) ::
oT 54 57 (.mov (.t 8)) ::
oT 54 58 (.bin .eql (.t 56) (.t 57)) ::
oD 59 (.pick (.t 54) (.t 58) cF) ::
oM 60 59 ::
oT 60 61 (.mov (.t 8)) ::
oT 60 62 (.bin .neq (.t 61) (cI 0)) ::
oT 60 63 (.mov (.t 62)) ::
oF 63 64 (.mov (.t 9)) ::
oF 63 65 (.call false (.f 32) [(.t 64)]) ::
oF 63 66 (.bin .eql (.t 65) (cI 0)) ::
oT 60 67 (.pick (.t 63) cT (.t 66)) ::
oD 68 (.pick (.t 60) (.t 67) cF) ::
oM 69 68 ::
oT 69 70 (.call false (.f 24) []) ::
oD 71 (.pick (.t 69) (.t 70) cF) ::
oM 4 71 ::
[])))
.ret)))))))))
def rd_l16_BucketDecodes : List RD := [.tmp 4 true none]
theorem ok_l16_BucketDecodes : fnOk Tryz.prog Tryz.f6 ir_l16_BucketDecodes rd_l16_BucketDecodes = true := by kernel_rfl
def S_l16_BucketDecodes : List AV → List Obj → Option (Prop × AV)
  | [.imm (.int .u8) b, .imm (.int .u8) x], [] => some ((True, .bool true))
  | _, _ => none
theorem snd_l16_BucketDecodes : SoundS Tryz.prog 6 (RoF S_l16_BucketDecodes).sum := by
  refine ro_fn Tryz.func6 ok_l16_BucketDecodes (env_cons (s := RoF S_l16_sure) snd_l16_sure (env_cons (s := RoF S_bucket_Decode) snd_bucket_Decode (env_cons (s := RoF S_r16_Decode) snd_r16_Decode (env_cons (s := RoF S_r16_Same) snd_r16_Same (env_cons (s := RwF S_cursor_New) snd_cursor_New (env_cons (s := RwF S_cursor_Cursor_Bytes) snd_cursor_Cursor_Bytes (env_cons (s := RwF S_bucket_Take) snd_bucket_Take (env_cons (s := RoF S_cursor_Cursor_Err) snd_cursor_Cursor_Err (env_cons (s := RoF S_cursor_Cursor_Left) snd_cursor_Cursor_Left (env_nil _)))))))))) fun args objs p v e => ?_
  unfold S_l16_BucketDecodes at e
  split at e
  · rename_i b x
    cases e
    refine ⟨rfl, fun hw ho hp => ?_⟩
    change List Int at b
    change List Int at x
    clear hw ho
    by_cases hc : b.length ≤ 1500 ∧ x.length ≤ 100
    · obtain ⟨c1, c2⟩ := hc
      have hE := takeE
      obtain ⟨k1, k2, k3⟩ := take_ok (n := x.length) (p := 0) (sh := 263) (b := x ++ b) (by omega) (by rw [List.length_append]; omega)
      have hd : (x ++ b).drop (0 + (x.length : Int)).toNat = b := by rw [show (0 + (x.length : Int)).toNat = x.length by omega]; exact List.drop_left
      have hN : bdE b = 0 → (bG b).2.2 = b.length := bd_all
      clear hE
      repeat' (intro t ht; first | (cases t <;> first | (cases ht; done) | ((try simp only [bn_s] at ht); (try simp only [nd_s] at ht))) | (refine ht ?_ ?_ <;> clear ht) | (refine ht.1 ?_ ?_ <;> clear ht) | (refine ht ?_; clear ht))
      all_goals (try simp only [cast_rfl, List.nil_append, k1, k2, k3, hd] at *)
      all_goals first
        | exact True.intro
        | contradiction
        | omega
        | exact ⟨rfl, by first | rfl | exact True.intro⟩
        | exact ⟨True.intro, True.intro⟩
        | (constructor <;> (try simp only [List.length_nil]) <;> omega)
        | (rw [List.length_append]; omega)
        | (simp only [cast_rfl, List.length_append, List.length_nil, Nat.zero_add] at *; constructor <;> omega)
        | (simp only [cast_rfl, List.length_append, List.length_nil, Nat.zero_add] at *; refine ⟨?_, ?_, ?_, ?_⟩ <;> omega)
        | (simp only [cast_rfl, List.length_append, List.length_nil, Nat.zero_add] at *; refine ⟨?_, ?_, ?_, ?_, ?_⟩ <;> omega)
        | (exfalso; omega)
        | (exfalso; simp_all; done)
        | ((try simp only [nd_s, bn_s, mm_s] at *); omega)
        | skip
    · repeat' (intro t ht; first | (cases t <;> first | (cases ht; done) | ((try simp only [bn_s] at ht); (try simp only [nd_s] at ht); (try (exfalso; first | contradiction | omega)))) | (refine ht ?_ ?_ <;> clear ht) | (refine ht.1 ?_ ?_ <;> clear ht) | (refine ht ?_; clear ht))
      all_goals first
        | exact True.intro
        | exact ⟨rfl, rfl⟩
        | (exfalso; omega)
        | (exfalso; simp_all; done)
        | trace_state
  · cases e
end Go.Eng
namespace Go.Eng
open Go.Proofs
set_option linter.unusedVariables false
set_option linter.unusedSimpArgs false
set_option maxRecDepth 100000
set_option maxHeartbeats 1000000
end Go.Eng
