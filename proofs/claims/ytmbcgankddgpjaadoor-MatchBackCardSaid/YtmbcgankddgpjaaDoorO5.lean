/- Contracts of functions of the given program, told by plain Lean functions. No condition. -/
import Derived.Test.YtmbcgankddgpjaaDoorProg
import Derived.Test.YtmbcgankddgpjaaDoorEArg
import Derived.KernelRfl
import Derived.Test.YtmbcgankddgpjaaDoorO2
namespace Go.Eng
open Go.Proofs
set_option linter.unusedVariables false
set_option linter.unusedSimpArgs false
set_option maxRecDepth 100000
set_option maxHeartbeats 1000000
def sizeO (c f : Int) (h : Bool) (x : Int) (v m : List Int) : Int := if rightO c f h x v m = true then 4 + restO c v m else 0
def ir_oxm_Size : IR :=
(.seq
(.keep [0]
(.reg (oD 1 (.boxv (.t 0)) ::
oD 2 (.mov (cI 0)) ::
[])))
(.seq
(.seq
(.reg (oD 3 (.load (some 6) (.t 1)) ::
oD 4 (.call false (.f 52) [(.t 3)]) ::
oD 5 (.un .not (.t 4)) ::
[]))
(.cond (.t 5)
(.seq
(.reg (oD 2 (.mov (cI 0)) ::
[]))
.ret)
.skip))
(.seq
(.keep [1]
(.reg (oD 6 (.load (some 6) (.t 1)) ::
oD 7 (.call false (.f 90) [(.t 6)]) ::
oD 8 (.bin .add (cI 4) (.t 7)) ::
oM 2 8 ::
[])))
.ret)))
def rd_oxm_Size : List RD := [.tmp 2 true none]
theorem ok_oxm_Size : fnOk Tryd.prog Tryd.f81 ir_oxm_Size rd_oxm_Size = true := by kernel_rfl
def S_oxm_Size : List AV → List Obj → Option (Prop × AV)
  | [.agg [.int .i64 c, .int .i64 f, .bool h, .int .u64 x, .imm (.int .u8) v, .imm (.int .u8) m]], [] => some ((v.length ≤ 1000000 ∧ m.length ≤ 1000000, .int .i64 (sizeO c f h x v m)))
  | _, _ => none
theorem snd_oxm_Size : SoundS Tryd.prog 81 (RoF S_oxm_Size).sum := by
  refine ro_fn Tryd.func81 ok_oxm_Size (env_cons (s := RoF S_oxm_Right) snd_oxm_Right (env_cons (s := RoF S_oxm_rest) snd_oxm_rest (env_nil _))) fun args objs p v e => ?_
  unfold S_oxm_Size at e
  split at e
  · rename_i c f h x v m
    cases e
    refine ⟨rfl, fun hw ho hp => ?_⟩
    change List Int at v
    change List Int at m
    repeat' (intro t ht; first | (cases t <;> first | (cases ht; done) | ((try simp only [bn_s] at ht); (try simp only [nd_s] at ht))) | (refine ht ?_ ?_ <;> clear ht) | (refine ht.1 ?_ ?_ <;> clear ht) | (refine ht ?_; clear ht))
    all_goals first
      | exact hp
      | (have hr : rightO c f h x v m = true := by assumption
         have hl := right_len hr
         have hof := of_le c f
         have hm : (m.length : Int) ≤ 100 := by cases h; have := hl.2.2.1 rfl; omega; have := hl.2.1 rfl; omega
         have hrest : 0 ≤ restO c v m ∧ restO c v m ≤ 204 := by unfold restO; split <;> omega
         first
           | ((try simp only [nd_s, bn_s, mm_s] at *); omega)
           | (unfold sizeO; rw [if_pos hr]; exact ⟨rfl, rfl⟩))
      | (have hr : rightO c f h x v m = false := by assumption
         unfold sizeO; rw [hr]; exact ⟨rfl, rfl⟩)
      | trace_state
  · cases e
theorem room_id {n : Int} (h : 0 ≤ n) (h1 : n ≤ 1000000) : roomF n = n := by unfold roomF; rw [if_neg (by omega)]; split <;> omega
def headO (c f : Int) (h : Bool) (v m : List Int) : List Int := bytesN c 2 ++ bytesN (2 * f + if h = true then 1 else 0) 1 ++ bytesN (restO c v m) 1
def encO (c f : Int) (h : Bool) (x : Int) (v m : List Int) : List Int := headO c f h v m ++ (if c = 65535 then bytesN x 4 else []) ++ v ++ m
theorem put211 {a b c : Int} (ha : 0 ≤ a ∧ a ≤ 65535) (hb : 0 ≤ b ∧ b ≤ 255) (hc : 0 ≤ c ∧ c ≤ 255) : putB [2, 1, 1] [a, b, c] = bytesN a 2 ++ bytesN b 1 ++ bytesN c 1 ∧ putK [2, 1, 1] [a, b, c] = true := by
  have e1 : a.fdiv (2 ^ 16) = 0 := by rw [Int.fdiv_eq_ediv_of_nonneg _ (by decide)]; omega
  have e2 : b.fdiv (2 ^ 8) = 0 := by rw [Int.fdiv_eq_ediv_of_nonneg _ (by decide)]; omega
  have e3 : c.fdiv (2 ^ 8) = 0 := by rw [Int.fdiv_eq_ediv_of_nonneg _ (by decide)]; omega
  have h : putF [2, 1, 1] [a, b, c] = some (bytesN a 2 ++ bytesN b 1 ++ bytesN c 1) := by
    unfold putF
    rw [if_pos ⟨by decide, show countW [2, 1, 1] = 3 by decide⟩]
    show (if (2 : Int) < 8 ∧ a.fdiv (2 ^ 16) ≠ 0 then none else putA [1, 1] [b, c] ([] ++ bytesN a 2)) = _
    rw [if_neg (fun h => h.2 e1)]
    show (if (1 : Int) < 8 ∧ b.fdiv (2 ^ 8) ≠ 0 then none else putA [1] [c] ([] ++ bytesN a 2 ++ bytesN b 1)) = _
    rw [if_neg (fun h => h.2 e2)]
    show (if (1 : Int) < 8 ∧ c.fdiv (2 ^ 8) ≠ 0 then none else putA [] [] ([] ++ bytesN a 2 ++ bytesN b 1 ++ bytesN c 1)) = _
    rw [if_neg (fun h => h.2 e3)]
    simp [putA]
  unfold putB putK; rw [h]; exact ⟨rfl, rfl⟩
theorem put4 {a : Int} (ha : 0 ≤ a ∧ a ≤ 4294967295) : putB [4] [a] = bytesN a 4 ∧ putK [4] [a] = true := by
  have e1 : a.fdiv (2 ^ 32) = 0 := by rw [Int.fdiv_eq_ediv_of_nonneg _ (by decide)]; omega
  have h : putF [4] [a] = some (bytesN a 4) := by
    unfold putF
    rw [if_pos ⟨by decide, show countW [4] = 1 by decide⟩]
    show (if (4 : Int) < 8 ∧ a.fdiv (2 ^ 32) ≠ 0 then none else putA [] [] ([] ++ bytesN a 4)) = _
    rw [if_neg (fun h => h.2 e1)]
    simp [putA]
  unfold putB putK; rw [h]; exact ⟨rfl, rfl⟩
theorem bufB_ok {x l : List Int} {room : Int} (h : (x.length : Int) ≤ room - l.length) : bufB x l room 0 = l ++ x ∧ bufE x l room 0 = 0 := by
  unfold bufB bufE bufOk; rw [decide_eq_true h]; simp; omega
theorem rows211 {a b c room : Int} (ha : 0 ≤ a ∧ a ≤ 65535) (hb : 0 ≤ b ∧ b ≤ 255) (hc : 0 ≤ c ∧ c ≤ 255) (hr : 4 ≤ room) : rowB [2, 1, 1] [a, b, c] [] room 0 = bytesN a 2 ++ bytesN b 1 ++ bytesN c 1 ∧ rowE [2, 1, 1] [a, b, c] [] room 0 = 0 := by
  obtain ⟨h1, h2⟩ := put211 ha hb hc
  have l1 := bytesN_len (n := a) (w := 2) (by decide)
  have l2 := bytesN_len (n := b) (w := 1) (by decide)
  have l3 := bytesN_len (n := c) (w := 1) (by decide)
  have := bufB_ok (x := bytesN a 2 ++ bytesN b 1 ++ bytesN c 1) (l := []) (room := room) (by simp only [List.length_append, List.length_nil]; omega)
  unfold rowB rowE; rw [h1, h2]; exact this
theorem nm4 {x room : Int} {l : List Int} (hx : 0 ≤ x ∧ x ≤ 4294967295) (hr : 4 ≤ room - l.length) : nmB 4 x l room 0 = l ++ bytesN x 4 ∧ nmE 4 x l room 0 = 0 := by
  obtain ⟨h1, h2⟩ := put4 hx
  have l1 := bytesN_len (n := x) (w := 4) (by decide)
  have := bufB_ok (x := bytesN x 4) (l := l) (room := room) (by omega)
  have hw : wideB 4 = true := by decide
  unfold nmB nmE rowB rowE; rw [hw, h1, h2]; exact this
def ir_oxm_Encode : IR :=
(.seq
(.keep [0]
(.reg (oD 1 (.boxv (.t 0)) ::
oD 2 (.mov (.c (.imm (.int .u8) []))) ::
oD 3 (.mov (cI 0)) ::
[])))
(.seq
(.seq
(.reg (oD 6 (.load (some 6) (.t 1)) ::
oD 7 (.call false (.f 52) [(.t 6)]) ::
oD 8 (.un .not (.t 7)) ::
[]))
(.cond (.t 8)
(.seq
(.keep []
(.reg (oD 2 (.mov (.c (.imm (.int .u8) []))) ::
oD 3 (.mov (cI 10001)) ::
[])))
.ret)
.skip))
(.seq
(.keep [1]
(.reg (oD 9 (.load (some 6) (.t 1)) ::
oD 10 (.call false (.f 81) [(.t 9)]) ::
oD 11 (.call false (.f 38) [(.t 10)]) ::
oM 4 11 ::
[])))
(.seq
(.keep [1, 4]
(.reg (oD 12 (.fieldAddr 1 (.t 1)) ::
oL 13 12 ::
oD 14 (.bin .mul (cI 2) (.t 13)) ::
oD 15 (.conv .u64 (.t 14)) ::
oM 5 15 ::
[])))
(.seq
(.seq
(.reg (oD 16 (.fieldAddr 2 (.t 1)) ::
oL 17 16 ::
[]))
(.cond (.t 17)
(.keep [1, 4, 5]
(.reg (oM 18 5 ::
oD 19 (.bin .add (.t 18) (.c (.int .u64 1))) ::
oM 5 19 ::
[])))
.skip))
(.seq
(.keep [1, 4, 5]
(.regD ((oM 20 4, []) ::
(oD 21 (.sliceAll (.int .i64) 3 [(0, 1, (cI 2)), (1, 1, (cI 1)), (2, 1, (cI 1))]), [0]) ::
(oD 22 (.fieldAddr 0 (.t 1)), [0, 0]) ::
(oL 23 22, [1, 0]) ::
(oD 24 (.conv .u64 (.t 23)), [2, 0]) ::
(oM 25 5, [0, 0, 0, 0, 0]) ::
(oD 26 (.load (some 6) (.t 1)), [0, 0, 0, 0, 0, 0]) ::
(oD 27 (.call false (.f 90) [(.t 26)]), [1, 0, 0, 0, 0, 0]) ::
(oD 28 (.conv .u64 (.t 27)), [2, 0, 0, 0, 0, 0]) ::
(oD 29 (.sliceAll (.int .u64) 3 [(0, 1, (.t 24)), (1, 1, (.t 25)), (2, 1, (.t 28))]), [7, 0]) ::
(oD 30 (.call false (.f 63) [(.t 20), (.t 21), (.t 29)]), []) ::
[])))
(.seq
(.seq
(.keep [1, 4]
(.reg (oD 31 (.fieldAddr 0 (.t 1)) ::
oL 32 31 ::
oD 33 (.bin .eql (.t 32) (cI 65535)) ::
[])))
(.cond (.t 33)
(.reg (oM 34 4 ::
oD 35 (.fieldAddr 3 (.t 1)) ::
oL 36 35 ::
oD 37 (.call false (.f 91) [(.t 34), (cI 4), (.t 36)]) ::
[]))
.skip))
(.seq
(.keep [1, 4]
(.reg (oM 38 4 ::
oD 39 (.fieldAddr 4 (.t 1)) ::
oL 40 39 ::
oD 41 (.call false (.f 65) [(.t 38), (.t 40)]) ::
[])))
(.seq
(.reg (oM 42 4 ::
oD 43 (.fieldAddr 5 (.t 1)) ::
oL 44 43 ::
oD 45 (.call false (.f 65) [(.t 42), (.t 44)]) ::
[]))
(.seq
(.keep [4]
(.reg (oM 46 4 ::
oD 47 (.call false (.f 40) [(.t 46)]) ::
oD 48 (.extract (.t 47) 0) ::
oD 49 (.extract (.t 47) 1) ::
oM 2 48 ::
oM 3 49 ::
[])))
.ret))))))))))
def rd_oxm_Encode : List RD := [.tmp 2 true (some (.int .u8)), .tmp 3 true none]
theorem ok_oxm_Encode : fnOk Tryd.prog Tryd.f64 ir_oxm_Encode rd_oxm_Encode = true := by kernel_rfl
def S_oxm_Encode : List AV → List Obj → Option (Prop × AV)
  | [.agg [.int .i64 c, .int .i64 f, .bool h, .int .u64 x, .imm (.int .u8) v, .imm (.int .u8) m]], [] => some ((v.length ≤ 1000000 ∧ m.length ≤ 1000000, .tup [.imm (.int .u8) (if rightO c f h x v m = true then encO c f h x v m else []), .int .i64 (if rightO c f h x v m = true then 0 else 10001)]))
  | _, _ => none
theorem snd_oxm_Encode : SoundS Tryd.prog 64 (RoF S_oxm_Encode).sum := by
  refine ro_fn Tryd.func64 ok_oxm_Encode (env_cons (s := RoF S_oxm_Right) snd_oxm_Right (env_cons (s := RoF S_oxm_Size) snd_oxm_Size (env_cons (s := RwF S_buffer_New) snd_buffer_New (env_cons (s := RoF S_oxm_rest) snd_oxm_rest (env_cons (s := RwF S_buffer_Buffer_Row) snd_buffer_Buffer_Row (env_cons (s := RwF S_buffer_Buffer_Num) snd_buffer_Buffer_Num (env_cons (s := RwF S_buffer_Buffer_Bytes) snd_buffer_Buffer_Bytes (env_cons (s := RwF S_buffer_Buffer_Done) snd_buffer_Buffer_Done (env_nil _))))))))) fun args objs p v e => ?_
  unfold S_oxm_Encode at e
  split at e
  · rename_i c f h x v m
    cases e
    refine ⟨rfl, fun hw ho hp => ?_⟩
    change List Int at v
    change List Int at m
    cases hr : rightO c f h x v m with
    | false =>
      repeat' (intro t ht; first | (cases t <;> first | (cases ht; done) | ((try simp only [bn_s] at ht); (try simp only [nd_s] at ht))) | (refine ht ?_ ?_ <;> clear ht) | (refine ht.1 ?_ ?_ <;> clear ht) | (refine ht ?_; clear ht))
      all_goals first
        | exact hp
        | (exfalso; simp_all; done)
        | exact ⟨rfl, rfl⟩
        | trace_state
    | true =>
      have hl := right_len hr
      have hof := of_le c f
      have hm : (m.length : Int) ≤ 100 := by cases h; have := hl.2.2.1 rfl; omega; have := hl.2.1 rfl; omega
      have hrest : 0 ≤ restO c v m ∧ restO c v m ≤ 204 := by unfold restO; split <;> omega
      have hcf : 0 ≤ f ∧ f ≤ 127 ∧ (c = 65535 ∨ c = 32768) := by
        have h4 := hl.2.2.2.1
        unfold ofOk at h4
        split at h4
        · simp at h4; omega
        · simp at h4; have := fIs_t.1 h4.1; omega
      have hs : sizeO c f h x v m = 4 + restO c v m := by unfold sizeO; rw [if_pos hr]
      have hroom : roomF (sizeO c f h x v m) = 4 + restO c v m := by rw [hs]; exact room_id (by omega) (by omega)
      have hx0 : 0 ≤ x := ((hw _ (List.mem_cons_self ..)) (.int .u64 x) (by simp)).1
      have hx1 : x ≤ 4294967295 := by
        have h7 : x.fdiv (2 ^ 32) = 0 := hl.2.2.2.2.2.2.1
        rw [Int.fdiv_eq_ediv_of_nonneg _ (by decide)] at h7; omega
      obtain ⟨N, hN⟩ : ∃ N, N = 2 * f + if h = true then 1 else 0 := ⟨_, rfl⟩
      have hN1 : 0 ≤ N ∧ N ≤ 255 := by rw [hN]; split <;> omega
      obtain ⟨R, hR⟩ : ∃ R, R = restO c v m := ⟨_, rfl⟩
      have hR1 : 0 ≤ R ∧ R ≤ 204 := by omega
      obtain ⟨H1, H2⟩ := rows211 (a := c) (b := N) (c := R) (room := 4 + R) (by omega) (by omega) (by omega) (by omega)
      have l0 : ((bytesN c 2 ++ bytesN N 1 ++ bytesN R 1).length : Int) = 4 := by
        have l1 := bytesN_len (n := c) (w := 2) (by decide)
        have l2 := bytesN_len (n := N) (w := 1) (by decide)
        have l3 := bytesN_len (n := R) (w := 1) (by decide)
        simp only [List.length_append]; omega
      have l4 := bytesN_len (n := x) (w := 4) (by decide)
      have hd0 : doneL = doneL := rfl
      have e0 : ∀ l, doneL l [] 0 = l := fun l => rfl
      have e1 : doneE [] 0 = 0 := rfl
      rw [← hR] at hroom
      by_cases hc : c = 65535
      · have hRe : R = (v.length : Int) + m.length + 4 := by rw [hR]; unfold restO; rw [if_pos hc]
        obtain ⟨H3, H4⟩ := nm4 (x := x) (room := 4 + R) (l := bytesN c 2 ++ bytesN N 1 ++ bytesN R 1) ⟨hx0, hx1⟩ (by omega)
        obtain ⟨H5, H6⟩ := bufB_ok (x := v) (room := 4 + R) (l := bytesN c 2 ++ bytesN N 1 ++ bytesN R 1 ++ bytesN x 4) (by rw [List.length_append]; omega)
        obtain ⟨H7, H8⟩ := bufB_ok (x := m) (room := 4 + R) (l := bytesN c 2 ++ bytesN N 1 ++ bytesN R 1 ++ bytesN x 4 ++ v) (by rw [List.length_append, List.length_append]; omega)
        have hfin : encO c f h x v m = bytesN c 2 ++ bytesN N 1 ++ bytesN R 1 ++ bytesN x 4 ++ v ++ m := by unfold encO headO; rw [← hN, ← hR, if_pos hc]
        rw [hfin]
        cases h
        all_goals (simp only [if_true, if_false, Bool.false_eq_true, Int.add_zero] at hN)
        all_goals repeat' (intro t ht; first | (cases t <;> first | (cases ht; done) | ((try simp only [bn_s] at ht); (try simp only [nd_s] at ht))) | (refine ht ?_ ?_ <;> clear ht) | (refine ht.1 ?_ ?_ <;> clear ht) | (refine ht ?_; clear ht))
        all_goals (try simp only [← hN, ← hR])
        all_goals first
          | exact True.intro
          | exact hp
          | (exfalso; simp_all; done)
          | ((try simp only [nd_s, bn_s, mm_s] at *); omega)
          | (simp only [hroom, H1, H2, H3, H4, H5, H6, H7, H8]; simp only [List.length_append, List.length_nil] at l0 ⊢; omega)
          | (refine ⟨?_, ?_⟩ <;> first | rfl | (simp only [hroom, H1, H2, H3, H4, H5, H6, H7, H8, e0, e1]; done) | (simp only [hroom, H1, H2, H3, H4, H5, H6, H7, H8, e0, e1]; rfl))
          | trace_state
      · have hRe : R = (v.length : Int) + m.length := by rw [hR]; unfold restO; rw [if_neg hc]
        obtain ⟨H5, H6⟩ := bufB_ok (x := v) (room := 4 + R) (l := bytesN c 2 ++ bytesN N 1 ++ bytesN R 1) (by omega)
        obtain ⟨H7, H8⟩ := bufB_ok (x := m) (room := 4 + R) (l := bytesN c 2 ++ bytesN N 1 ++ bytesN R 1 ++ v) (by rw [List.length_append]; omega)
        have hfin : encO c f h x v m = bytesN c 2 ++ bytesN N 1 ++ bytesN R 1 ++ v ++ m := by unfold encO headO; rw [← hN, ← hR, if_neg hc, List.append_nil]
        rw [hfin]
        cases h
        all_goals (simp only [if_true, if_false, Bool.false_eq_true, Int.add_zero] at hN)
        all_goals repeat' (intro t ht; first | (cases t <;> first | (cases ht; done) | ((try simp only [bn_s] at ht); (try simp only [nd_s] at ht))) | (refine ht ?_ ?_ <;> clear ht) | (refine ht.1 ?_ ?_ <;> clear ht) | (refine ht ?_; clear ht))
        all_goals (try simp only [← hN, ← hR])
        all_goals first
          | exact True.intro
          | exact hp
          | (exfalso; simp_all; done)
          | ((try simp only [nd_s, bn_s, mm_s] at *); omega)
          | (simp only [hroom, H1, H2, H5, H6, H7, H8]; simp only [List.length_append, List.length_nil] at l0 ⊢; omega)
          | (refine ⟨?_, ?_⟩ <;> first | rfl | (simp only [hroom, H1, H2, H5, H6, H7, H8, e0, e1]; done) | (simp only [hroom, H1, H2, H5, H6, H7, H8, e0, e1]; rfl))
          | trace_state
  · cases e
def longS (h ex : Bool) (sz n : Int) : Int := if ex = true then (n - 4).tdiv (if h = true then 2 else 1) else sz
def longK (h ex : Bool) (sz n : Int) : Bool := if ex = true then decide (0 ≤ n - 4) && decide ((n - 4).tmod (if h = true then 2 else 1) = 0) && decide ((n - 4).tdiv (if h = true then 2 else 1) ≤ sz) else decide (n = (if h = true then 2 else 1) * sz)
def ir_oxm_long : IR :=
(.seq
(.keep [0, 1, 2]
(.reg (oD 3 (.boxv (.t 0)) ::
oD 4 (.boxv (.t 1)) ::
oD 6 (.mov (cI 0)) ::
oD 7 (.mov cF) ::
[])))
(.seq
(.reg (oD 8 (.mov (cI 1)) ::
[]))
(.seq
(.seq
(.reg (oD 9 (.fieldAddr 2 (.t 3)) ::
oL 10 9 ::
[]))
(.cond (.t 10)
(.keep [2, 4, 8]
(.reg (oM 11 8 ::
oD 12 (.bin .add (.t 11) (cI 1)) ::
oM 8 12 ::
[])))
.skip))
(.seq
(.seq
(.keep [2, 4, 8]
(.reg (oD 13 (.fieldAddr 3 (.t 4)) ::
oL 14 13 ::
oD 15 (.un .not (.t 14)) ::
[])))
(.cond (.t 15)
(.seq
(.keep [2, 4, 8]
(.regD ((oD 16 (.fieldAddr 0 (.t 4)), []) ::
(oL 17 16, []) ::
(oM 18 2, [0, 0]) ::
(oM 19 8, [0, 0, 0]) ::
(oD 20 (.fieldAddr 0 (.t 4)), [0, 0, 0, 0]) ::
(oL 21 20, [1, 0, 0, 0]) ::
(oD 22 (.bin .mul (.t 19) (.t 21)), [3, 0, 0]) ::
(oD 23 (.bin .eql (.t 18) (.t 22)), [5, 0]) ::
(oM 6 17, [0, 0, 0, 0, 0, 0]) ::
(oM 7 23, []) ::
[])))
.ret)
.skip))
(.seq
(.keep [2, 4, 8]
(.reg (oM 24 2 ::
oD 25 (.bin .sub (.t 24) (cI 4)) ::
oM 2 25 ::
[])))
(.seq
(.keep [2, 4, 8]
(.regD ((oM 26 2, []) ::
(oM 27 8, [0]) ::
(oD 28 (.bin .quo (.t 26) (.t 27)), []) ::
(oM 29 2, [0, 0, 0]) ::
(oD 30 (.bin .geq (.t 29) (cI 0)), [1, 0, 0]) ::
(oM 31 30, [2, 0, 0]) ::
(oT 31 32 (.mov (.t 2)), [3, 0, 0]) ::
(oT 31 33 (.mov (.t 8)), [0, 3, 0, 0]) ::
(oT 31 34 (.bin .rem (.t 32) (.t 33)), [5, 0, 0]) ::
(oT 31 35 (.bin .eql (.t 34) (cI 0)), [6, 0, 0]) ::
(oD 36 (.pick (.t 31) (.t 35) cF), [7, 0, 0]) ::
(oM 37 36, [8, 0, 0]) ::
(oT 37 38 (.mov (.t 2)), [9, 0, 0]) ::
(oT 37 39 (.mov (.t 8)), [0, 9, 0, 0]) ::
(oT 37 40 (.bin .quo (.t 38) (.t 39)), [11, 0, 0]) ::
(oT 37 41 (.fieldAddr 0 (.t 4)), [0, 0, 0, 9, 0, 0]) ::
(oT 37 42 (.load none (.t 41)), [1, 0, 0, 9, 0, 0]) ::
(oT 37 43 (.bin .leq (.t 40) (.t 42)), [14, 0, 0]) ::
(oD 44 (.pick (.t 37) (.t 43) cF), [15, 0, 0]) ::
(oM 6 28, [0, 0, 0, 0, 0, 0, 0]) ::
(oM 7 44, []) ::
[])))
.ret))))))
def rd_oxm_long : List RD := [.tmp 6 true none, .tmp 7 true none]
theorem ok_oxm_long : fnOk Tryd.prog Tryd.f110 ir_oxm_long rd_oxm_long = true := by kernel_rfl
def S_oxm_long : List AV → List Obj → Option (Prop × AV)
  | [.agg [.int .i64 c, .int .i64 f, .bool h, .int .u64 x, .imm (.int .u8) v, .imm (.int .u8) m], .agg [.int .i64 sz, .int .i64 bits, .bool mk, .bool ex], .int .i64 n], [] => some ((0 ≤ n ∧ n ≤ 255 ∧ 0 ≤ sz ∧ sz ≤ 100, .tup [.int .i64 (longS h ex sz n), .bool (longK h ex sz n)]))
  | _, _ => none
theorem snd_oxm_long : SoundS Tryd.prog 110 (RoF S_oxm_long).sum := by
  refine ro_fn Tryd.func110 ok_oxm_long (env_nil _) fun args objs p v e => ?_
  unfold S_oxm_long at e
  split at e
  · rename_i c f h x v m sz bits mk ex n
    cases e
    refine ⟨rfl, fun hw ho hp => ?_⟩
    change List Int at v
    change List Int at m
    have t1 : (n - 4).tdiv 1 = n - 4 := Int.tdiv_one _
    have t2 : -4 ≤ (n - 4).tdiv 2 ∧ (n - 4).tdiv 2 ≤ 255 := by
      by_cases h : 0 ≤ n - 4
      · rw [tdiv_nn h]; omega
      · have : n = 0 ∨ n = 1 ∨ n = 2 ∨ n = 3 := by omega
        rcases this with h | h | h | h <;> subst h <;> decide
    have e2 : (1 + 1 : Int) = 2 := rfl
    cases h <;> cases ex
    all_goals repeat' (intro t ht; first | (cases t <;> first | (cases ht; done) | ((try simp only [bn_s] at ht); (try simp only [nd_s] at ht))) | (refine ht ?_ ?_ <;> clear ht) | (refine ht.1 ?_ ?_ <;> clear ht) | (refine ht ?_; clear ht))
    all_goals (try simp only [e2] at *)
    all_goals first
      | exact True.intro
      | exact (by decide)
      | ((try simp only [nd_s, bn_s, mm_s] at *); simp only [t1]; omega)
      | ((try simp only [nd_s, bn_s, mm_s] at *); omega)
      | (have hn : ¬ 0 ≤ n - 4 := by assumption
         refine ⟨?_, by first | rfl | exact True.intro⟩; unfold longK; rw [decide_eq_false hn]; rfl)
      | (unfold longS longK; simp_all; done)
      | trace_state
  · cases e
end Go.Eng
