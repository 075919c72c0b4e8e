/- Contracts of functions of the given program, told by plain Lean functions. No condition. -/
import Derived.Test.YtmbcgankddgpjaaGreatDoorProg
import Derived.Test.YtmbcgankddgpjaaGreatDoorEArg
import Derived.KernelRfl
import Derived.Test.YtmbcgankddgpjaaGreatDoorM4
namespace Go.Eng
open Go.Proofs
set_option linter.unusedVariables false
set_option linter.unusedSimpArgs false
set_option maxRecDepth 100000
set_option maxHeartbeats 1000000
def boO (l : List OV) : List Int := l.flatMap ecO
def meN (l : List OV) : Int := 4 + ((boO l).length : Int)
def meB (l : List OV) : List Int := bytesN 1 2 ++ bytesN (meN l) 2 ++ boO l ++ List.replicate (pz (meN l)).toNat 0
theorem rgO_len {o : OV} (h : rgO o = true) : szO o = (ecO o).length ∧ exO o = ecO o ∧ eeO o = 0 ∧ (ecO o).length ≤ 300 := by
  have h1 := sizeO_right h
  have h2 := enc_law h
  refine ⟨?_, ?_, if_pos h, ?_⟩
  · unfold szO ecO; rw [h1.1, h2]
  · unfold exO ecO; rw [if_pos h, h2]
  · unfold ecO; rw [← h2]; exact h1.2
theorem long_bo : ∀ (l : List OV), l.all rgO = true → (l.map szO).sum = ((boO l).length : Int)
  | [], _ => rfl
  | o :: r, h => by
    rw [List.all_cons, Bool.and_eq_true] at h
    have ih := long_bo r h.2
    unfold boO at ih ⊢
    rw [List.flatMap_cons, List.length_append, List.map_cons, List.sum_cons, ih, (rgO_len h.1).1]; omega
theorem rgM_parts {l : List OV} (h : rgM l = true) : l.all rgO = true ∧ (ckS [] l).2 = 0 ∧ longO l = meN l ∧ meN l ≤ 65528 ∧ 4 ≤ meN l := by
  unfold rgM at h
  simp only [Bool.and_eq_true, decide_eq_true_eq] at h
  obtain ⟨⟨h1, h2⟩, h3⟩ := h
  have h4 : longO l = meN l := by unfold longO meN; rw [long_bo l h1]
  exact ⟨h1, h2, h4, by omega, by unfold meN; omega⟩
theorem puS_ok {room : Int} : ∀ (r : List OV) (l : List Int), r.all rgO = true → (l.length : Int) + (boO r).length ≤ room → puS room r l 0 = (l ++ boO r, 0)
  | [], l, _, _ => by unfold boO puS; simp
  | o :: r, l, h, hl => by
    rw [List.all_cons, Bool.and_eq_true] at h
    obtain ⟨_, h2, h3, _⟩ := rgO_len h.1
    have e1 : boO (o :: r) = ecO o ++ boO r := List.flatMap_cons
    rw [e1, List.length_append] at hl
    obtain ⟨b1, b2⟩ := buf_ok (x := ecO o) (l := l) (room := room) (by omega)
    have f0 : failE 0 0 = 0 := rfl
    unfold puS
    rw [h2, h3, f0, b1, b2, puS_ok r (l ++ ecO o) h.2 (by rw [List.length_append]; omega), e1, List.append_assoc]
/-- A match is written where there is room. -/
theorem mp_ok {x : List OV} {l : List Int} {room : Int} (h : rgM x = true) (hl : (l.length : Int) + meN x + pz (meN x) ≤ room) : mpB x l room 0 = l ++ meB x ∧ mpE x l room 0 = 0 := by
  obtain ⟨h1, h2, h3, h4, h5⟩ := rgM_parts h
  have hz := pz_le (n := meN x) (by omega)
  obtain ⟨r1, r2⟩ := row22 (a := 1) (n := meN x) (by omega) (by omega)
  have l2 := bytesN_len (n := 1) (w := 2) (by decide)
  have l3 := bytesN_len (n := meN x) (w := 2) (by decide)
  have hb : ((putB [2, 2] [1, meN x]).length : Int) = 4 := by rw [r1, List.length_append]; omega
  have hbo : meN x = 4 + (boO x).length := rfl
  obtain ⟨w1, w2⟩ := row_ok (l := l) (room := room) r2 (by omega)
  rw [r1] at w1
  have hS : mpS x l room 0 = (l ++ (bytesN 1 2 ++ bytesN (meN x) 2) ++ boO x, 0) := by
    unfold mpS; rw [h3, w1, w2]
    exact puS_ok x _ h1 (by simp only [List.length_append]; omega)
  obtain ⟨z1, z2⟩ := buf_ok (x := mpZ x) (l := l ++ (bytesN 1 2 ++ bytesN (meN x) 2) ++ boO x) (room := room) (by unfold mpZ; rw [h3]; simp only [List.length_append, List.length_replicate]; omega)
  unfold mpB mpE
  rw [if_pos h, if_pos h, hS, z1, z2]
  refine ⟨?_, rfl⟩
  unfold meB mpZ; rw [h3]; simp only [List.append_assoc]
theorem mp_bad {x : List OV} {l : List Int} {room e : Int} (h : rgM x = false) : mpB x l room e = l ∧ mpE x l room e = failE e 10001 := by
  unfold mpB mpE; rw [h]; exact ⟨rfl, rfl⟩
theorem meB_len (l : List OV) (h : 0 ≤ meN l) : ((meB l).length : Int) = meN l + pz (meN l) := by
  have l2 := bytesN_len (n := 1) (w := 2) (by decide)
  have l3 := bytesN_len (n := meN l) (w := 2) (by decide)
  have hz := pz_le (n := meN l) (by omega)
  have hbo : meN l = 4 + (boO l).length := rfl
  unfold meB
  simp only [List.length_append, List.length_replicate]; omega
def meL (l : List OV) : List Int := if rgM l = true then meB l else []
def meE (l : List OV) : Int := if rgM l = true then 0 else 10001
def ir_match_Encode : IR :=
(.seq
(.keep [0]
(.reg (oD 2 (.mov (.c (.imm (.int .u8) []))) ::
oD 3 (.mov (cI 0)) ::
[])))
(.seq
(.reg (oD 5 (.call false (.f 20) [(cI 65543)]) ::
oM 4 5 ::
[]))
(.seq
(.reg (oM 6 4 ::
oM 7 0 ::
oD 8 (.call false (.f 22) [(.t 6), (.t 7)]) ::
[]))
(.seq
(.keep [4]
(.reg (oM 9 4 ::
oD 10 (.call false (.f 23) [(.t 9)]) ::
oD 11 (.extract (.t 10) 0) ::
oD 12 (.extract (.t 10) 1) ::
oM 2 11 ::
oM 3 12 ::
[])))
.ret))))
def rd_match_Encode : List RD := [.tmp 2 true (some (.int .u8)), .tmp 3 true none]
theorem ok_match_Encode : fnOk Tryz.prog Tryz.f18 ir_match_Encode rd_match_Encode = true := by kernel_rfl
def S_match_Encode : List AV → List Obj → Option (Prop × AV)
  | [.imm (.cons (.int .i64) (.cons (.int .i64) (.cons .bool (.cons (.int .u64) (.cons (.sl (.int .u8)) (.cons (.sl (.int .u8)) .nil)))))) x], [] => some ((okM x, .tup [.imm (.int .u8) (meL x), .int .i64 (meE x)]))
  | _, _ => none
theorem snd_match_Encode : SoundS Tryz.prog 18 (RoF S_match_Encode).sum := by
  refine ro_fn Tryz.func18 ok_match_Encode (env_cons (s := RwF S_buffer_New) snd_buffer_New (env_cons (s := RwF S_match_Put) snd_match_Put (env_cons (s := RwF S_buffer_Buffer_Done) snd_buffer_Buffer_Done (env_nil _)))) fun args objs p v e => ?_
  unfold S_match_Encode at e
  split at e
  · rename_i x
    cases e
    refine ⟨rfl, fun hw ho hp => ?_⟩
    change List OV at x
    clear hw ho
    have hroom : roomF 65543 = 65543 := by decide
    have hok := hp
    cases hr : rgM x with
    | false =>
      obtain ⟨b1, b2⟩ := mp_bad (x := x) (l := []) (room := 65543) (e := 0) hr
      have e1 : meL x = [] := by unfold meL; rw [hr]; rfl
      have e2 : meE x = 10001 := by unfold meE; rw [hr]; rfl
      have f1 : failE 0 10001 = 10001 := rfl
      rw [e1, e2]
      repeat' (intro t ht; first | (cases t <;> first | (cases ht; done) | ((try simp only [bn_s] at ht); (try simp only [nd_s] at ht))) | (refine ht ?_ ?_ <;> clear ht) | (refine ht.1 ?_ ?_ <;> clear ht) | (refine ht ?_; clear ht))
      all_goals (try simp only [hroom, b1, b2, f1] at *)
      all_goals first
        | exact True.intro
        | exact ⟨hok, by decide, by decide, by decide⟩
        | exact ⟨rfl, by first | rfl | exact True.intro⟩
        | (constructor <;> (simp only [List.length_nil]; omega))
        | (exfalso; simp_all; done)
        | trace_state
    | true =>
      obtain ⟨h1, h2, h3, h4, h5⟩ := rgM_parts hr
      have hml := meB_len x (by omega)
      have hz := pz_le (n := meN x) (by omega)
      obtain ⟨b1, b2⟩ := mp_ok (x := x) (l := []) (room := 65543) hr (by simp only [List.length_nil]; omega)
      rw [List.nil_append] at b1
      have e1 : meL x = meB x := if_pos hr
      have e2 : meE x = 0 := if_pos hr
      rw [e1, e2]
      repeat' (intro t ht; first | (cases t <;> first | (cases ht; done) | ((try simp only [bn_s] at ht); (try simp only [nd_s] at ht))) | (refine ht ?_ ?_ <;> clear ht) | (refine ht.1 ?_ ?_ <;> clear ht) | (refine ht ?_; clear ht))
      all_goals (try simp only [hroom, b1, b2] at *)
      all_goals first
        | exact True.intro
        | exact ⟨hok, by decide, by decide, by decide⟩
        | exact ⟨rfl, by first | rfl | exact True.intro⟩
        | (constructor <;> (try simp only [List.length_nil]) <;> omega)
        | (exfalso; simp_all; done)
        | trace_state
  · cases e
theorem rgO_nums {o : OV} (h : rgO o = true) : 0 ≤ o.2.1 ∧ o.2.1 ≤ 127 ∧ 0 ≤ o.1 ∧ o.1 ≤ 65535 ∧ o.2.2.2.2.1.length ≤ 100 ∧ o.2.2.2.2.2.1.length ≤ 100 := by
  have hn := right_nums h
  refine ⟨hn.1, hn.2.1, ?_, ?_, ?_, ?_⟩ <;> omega
def refRO (o : OV) : Bool := refR o.1 o.2.1 o.2.2.1 o.2.2.2.1 o.2.2.2.2.1 o.2.2.2.2.2.1
theorem refRO_eq {o : OV} (h : bysO o) : refRO o = rgO o := (right_law h.1 h.2.1 h.2.2).symm
theorem boO_snoc {l : List OV} {i : Nat} {d : OV} (h : i < l.length) : boO (l.take (i + 1)) = boO (l.take i) ++ ecO (l.getD i d) := by
  unfold boO
  rw [List.take_succ_eq_append_getElem h, List.flatMap_append, List.getD_eq_getElem?_getD, List.getElem?_eq_getElem h]; simp
theorem boO_le {l : List OV} (h : l.all rgO = true) : (boO l).length ≤ 300 * l.length := by
  induction l with
  | nil => simp [boO]
  | cons o r ih =>
    rw [List.all_cons, Bool.and_eq_true] at h
    have e1 : boO (o :: r) = ecO o ++ boO r := List.flatMap_cons
    have := ih h.2
    have h2 := (rgO_len h.1).2.2.2
    rw [e1, List.length_append, List.length_cons]; omega
def ir_r10_Right : IR :=
(.seq
(.keep [0]
(.reg (oD 2 (.mov cF) ::
[])))
(.seq
(.reg (oD 3 (.mov (cI 4)) ::
[]))
(.seq
(.seq
(.reg (oD 4 (.mov (cI 0)) ::
[]))
(.block 0
(.loop
(.seq
(.seq
(.keep [0, 3, 4]
(.reg (oM 7 4 ::
oM 8 0 ::
oD 9 (.len (.t 8)) ::
oD 10 (.bin .lss (.t 7) (.t 9)) ::
[])))
(.cond (.t 10)
.skip
(.exit 0)))
(.seq
(.block 1
(.seq
(.seq
(.keep [0, 3, 4]
(.reg (oM 13 0 ::
oM 14 4 ::
oD 15 (.indexSl 6 (.t 13) (.t 14)) ::
oD 16 (.load (some 6) (.t 15)) ::
oD 17 (.call false (.f 117) [(.t 16)]) ::
oD 18 (.un .not (.t 17)) ::
[])))
(.cond (.t 18)
(.seq
(.keep []
(.reg (oD 2 (.mov cF) ::
[])))
.ret)
.skip))
(.keep [0, 3, 4]
(.reg (oM 19 3 ::
oM 20 0 ::
oM 21 4 ::
oD 22 (.indexSl 6 (.t 20) (.t 21)) ::
oD 23 (.load (some 6) (.t 22)) ::
oD 24 (.call false (.f 118) [(.t 23)]) ::
oD 25 (.len (.t 24)) ::
oD 26 (.bin .add (.t 19) (.t 25)) ::
oM 3 26 ::
[])))))
(.keep [0, 3, 4]
(.reg (oM 11 4 ::
oD 12 (.bin .add (.t 11) (cI 1)) ::
oM 4 12 ::
[]))))))))
(.seq
(.keep [0, 3]
(.reg (oM 28 0 ::
oD 29 (.call false (.f 88) [(.t 28)]) ::
oM 27 29 ::
oD 30 (.extract (.t 27) 0) ::
oD 31 (.extract (.t 27) 1) ::
oM 5 30 ::
oM 6 31 ::
[])))
(.seq
(.keep [3, 6]
(.reg (oM 32 6 ::
oD 33 (.bin .eql (.t 32) (cI 0)) ::
oM 34 33 ::
oT 34 35 (.mov (.t 3)) ::
oT 34 36 (.bin .leq (.t 35) (cI 65528)) ::
oD 37 (.pick (.t 34) (.t 36) cF) ::
oM 2 37 ::
[])))
.ret)))))
def rd_r10_Right : List RD := [.tmp 2 true none]
theorem ok_r10_Right : fnOk Tryz.prog Tryz.f69 ir_r10_Right rd_r10_Right = true := by kernel_rfl
def S_r10_Right : List AV → List Obj → Option (Prop × AV)
  | [.imm (.cons (.int .i64) (.cons (.int .i64) (.cons .bool (.cons (.int .u64) (.cons (.sl (.int .u8)) (.cons (.sl (.int .u8)) .nil)))))) l], [] => some ((okM l, .bool (rgM l)))
  | _, _ => none
theorem snd_r10_Right : SoundS Tryz.prog 69 (RoF S_r10_Right).sum := by
  refine ro_fn Tryz.func69 ok_r10_Right (env_cons (s := RoF S_r08_Right) snd_r08_Right (env_cons (s := RoF S_r08_Bytes) snd_r08_Bytes (env_cons (s := RoF S_r09_Check) snd_r09_Check (env_nil _)))) fun args objs p v e => ?_
  unfold S_r10_Right at e
  split at e
  · rename_i l
    cases e
    refine ⟨rfl, fun hw ho hp => ?_⟩
    change List OV at l
    have hby := oxm_wf (l := l) (hw (.imm (.cons (.int .i64) (.cons (.int .i64) (.cons .bool (.cons (.int .u64) (.cons (.sl (.int .u8)) (.cons (.sl (.int .u8)) .nil)))))) l) (by simp))
    clear hw ho
    have hok := hp
    have hn := hok.n
    repeat' (intro t ht; first | (cases t <;> first | (cases ht; done) | ((try simp only [bn_s] at ht); (try simp only [nd_s] at ht))) | (refine ht ?_ ?_ <;> clear ht) | (refine ht.1 ?_ ?_ <;> clear ht) | (refine ht ?_; clear ht))
    all_goals first
      | exact True.intro
      | (intro r h1 h2; clear h1; refine h2 ⟨[0, 3, 4], Nat, (fun i => i ≤ l.length ∧ (l.take i).all rgO = true), fun i => [.imm (.cons (.int .i64) (.cons (.int .i64) (.cons .bool (.cons (.int .u64) (.cons (.sl (.int .u8)) (.cons (.sl (.int .u8)) .nil)))))) l, .int .i64 (meN (l.take i)), .int .i64 i], fun _ => [], fun i => l.length - i, ⟨0, ⟨Nat.zero_le _, rfl⟩, rfl, rfl⟩, ?_⟩; clear h2)
    rintro i ⟨hi, he⟩
    repeat' (intro t ht; first | (cases t <;> first | (cases ht; done) | ((try simp only [bn_s] at ht); (try simp only [nd_s] at ht); (try (exfalso; first | contradiction | omega)))) | (refine ht ?_ ?_ <;> clear ht) | (refine ht.1 ?_ ?_ <;> clear ht) | (refine ht ?_; clear ht))
    all_goals (try generalize (Ty.dflt (.cons (.int .i64) (.cons (.int .i64) (.cons .bool (.cons (.int .u64) (.cons (.sl (.int .u8)) (.cons (.sl (.int .u8)) .nil))))))) = od at *)
    all_goals first
      | exact True.intro
      | ((try simp only [nd_s, bn_s, mm_s] at *); omega)
      | (have ha := allT_end (by omega) he
         rw [List.take_of_length_le (show l.length ≤ i by omega)] at *
         refine ⟨congrArg AV.bool ?_, rfl⟩
         have h3 : longO l = meN l := by unfold longO meN; rw [long_bo l ha]
         unfold rgM; rw [ha, h3]; simp_all; done)
      | (have hlt : i < l.length := by omega
         have hb := hby _ (getD_mem' hlt od)
         have hq := refRO_eq hb
         have hlen := hok.a.h _ (getD_mem' hlt od)
         first
           | exact hlen.2
           | (have hr : rgO (l.getD i od) = false := hq.symm.trans ht
              have hm : rgM l = false := by unfold rgM; rw [all_miss hlt hr]; rfl
              rw [hm]; exact ⟨rfl, rfl⟩)
           | (have hr : rgO (l.getD i od) = true := hq.symm.trans ht
              have hnu := rgO_nums hr
              first
                | exact hnu
                | (have h3 := boO_le he
                   rw [take_len (show i ≤ l.length by omega)] at h3
                   have h4 : (refB (l.getD i od).1 (l.getD i od).2.1 (l.getD i od).2.2.1 (l.getD i od).2.2.2.1 (l.getD i od).2.2.2.2.1 (l.getD i od).2.2.2.2.2.1).length ≤ 300 := (rgO_len hr).2.2.2
                   unfold meN
                   simp only [min_i64, max_i64, Int.toNat_natCast]; omega)
                | (refine ⟨i + 1, ⟨by omega, allT_step (by omega) he hr⟩, by dsimp only; omega, ?_, rfl⟩
                   have h5 : meN (l.take (i + 1)) = meN (l.take i) + ((ecO (l.getD i od)).length : Int) := by unfold meN; rw [boO_snoc (d := od) hlt, List.length_append]; omega
                   dsimp only; rw [h5]; rfl)))
      | trace_state
  · cases e
def ir_r10_Bytes : IR :=
(.seq
(.keep [0]
(.reg (oD 2 (.nilrow (.int .u8)) ::
[])))
(.seq
(.reg (oD 3 (.nilrow (.int .u8)) ::
[]))
(.seq
(.seq
(.reg (oD 4 (.mov (cI 0)) ::
[]))
(.block 0
(.loop
(.seq
(.seq
(.keep [0, 3, 4]
(.reg (oM 7 4 ::
oM 8 0 ::
oD 9 (.len (.t 8)) ::
oD 10 (.bin .lss (.t 7) (.t 9)) ::
[])))
(.cond (.t 10)
.skip
(.exit 0)))
(.seq
(.block 1
(.keep [0, 3, 4]
(.reg (oM 13 3 ::
oM 14 0 ::
oM 15 4 ::
oD 16 (.indexSl 6 (.t 14) (.t 15)) ::
oD 17 (.load (some 6) (.t 16)) ::
oD 18 (.call false (.f 118) [(.t 17)]) ::
oD 19 (.append (.int .u8) 1 (.t 13) (.t 18)) ::
oM 3 19 ::
[]))))
(.keep [0, 3, 4]
(.reg (oM 11 4 ::
oD 12 (.bin .add (.t 11) (cI 1)) ::
oM 4 12 ::
[]))))))))
(.seq
(.keep [3]
(.reg (oM 20 3 ::
oD 21 (.len (.t 20)) ::
oD 22 (.bin .add (cI 4) (.t 21)) ::
oM 5 22 ::
[])))
(.seq
(.keep [3, 5]
(.reg (oD 23 (.call false (.f 119) [(.c (.int .u64 1)), (cI 2)]) ::
oM 24 5 ::
oD 25 (.conv .u64 (.t 24)) ::
oD 26 (.call false (.f 119) [(.t 25), (cI 2)]) ::
oD 27 (.append (.int .u8) 1 (.t 23) (.t 26)) ::
oM 6 27 ::
[])))
(.seq
(.keep [3, 5, 6]
(.reg (oM 28 6 ::
oM 29 3 ::
oD 30 (.append (.int .u8) 1 (.t 28) (.t 29)) ::
oM 31 5 ::
oD 32 (.call false (.f 86) [(.t 31)]) ::
oD 33 (.appendz (.int .u8) 1 (0 : Int) (.t 30) (.t 32)) ::
oM 2 33 ::
[])))
.ret))))))
def rd_r10_Bytes : List RD := [.tmp 2 true (some (.int .u8))]
theorem ok_r10_Bytes : fnOk Tryz.prog Tryz.f70 ir_r10_Bytes rd_r10_Bytes = true := by kernel_rfl
def S_r10_Bytes : List AV → List Obj → Option (Prop × AV)
  | [.imm (.cons (.int .i64) (.cons (.int .i64) (.cons .bool (.cons (.int .u64) (.cons (.sl (.int .u8)) (.cons (.sl (.int .u8)) .nil)))))) l], [] => some ((rgM l = true ∧ l.length ≤ 100000, .imm (.int .u8) (meB l)))
  | _, _ => none
theorem snd_r10_Bytes : SoundS Tryz.prog 70 (RoF S_r10_Bytes).sum := by
  refine ro_fn Tryz.func70 ok_r10_Bytes (env_cons (s := RoF S_r08_Bytes) snd_r08_Bytes (env_cons (s := RwF S_r01_Num) snd_r01_Num (env_cons (s := RoF S_r10_zeros) snd_r10_zeros (env_nil _)))) fun args objs p v e => ?_
  unfold S_r10_Bytes at e
  split at e
  · rename_i l
    cases e
    refine ⟨rfl, fun hw ho hp => ?_⟩
    change List OV at l
    clear hw ho
    obtain ⟨hr, hn⟩ := hp
    obtain ⟨h1, h2, h3, h4, h5⟩ := rgM_parts hr
    have hz := pz_le (n := meN l) (by omega)
    repeat' (intro t ht; first | (cases t <;> first | (cases ht; done) | ((try simp only [bn_s] at ht); (try simp only [nd_s] at ht))) | (refine ht ?_ ?_ <;> clear ht) | (refine ht.1 ?_ ?_ <;> clear ht) | (refine ht ?_; clear ht))
    all_goals first
      | exact True.intro
      | (intro r h1 h2; clear h1; refine h2 ⟨[0, 3, 4], Nat, (fun i => i ≤ l.length), fun i => [.imm (.cons (.int .i64) (.cons (.int .i64) (.cons .bool (.cons (.int .u64) (.cons (.sl (.int .u8)) (.cons (.sl (.int .u8)) .nil)))))) l, .own 0, .int .i64 i], fun i => [.row false (.int .u8) (boO (l.take i))], fun i => l.length - i, ⟨0, Nat.zero_le _, rfl, rfl⟩, ?_⟩; clear h2)
      | trace_state
    rintro i hi
    have hbi := boO_le (l := l.take i) (List.all_eq_true.2 fun o ho => List.all_eq_true.1 h1 o (List.mem_of_mem_take ho))
    have hti : (l.take i).length ≤ 100000 := by rw [List.length_take]; omega
    repeat' (intro t ht; first | (cases t <;> first | (cases ht; done) | ((try simp only [bn_s] at ht); (try simp only [nd_s] at ht); (try (exfalso; first | contradiction | omega)))) | (refine ht ?_ ?_ <;> clear ht) | (refine ht.1 ?_ ?_ <;> clear ht) | (refine ht ?_; clear ht))
    all_goals (try generalize (Ty.dflt (.cons (.int .i64) (.cons (.int .i64) (.cons .bool (.cons (.int .u64) (.cons (.sl (.int .u8)) (.cons (.sl (.int .u8)) .nil))))))) = od at *)
    all_goals first
      | exact True.intro
      | ((try simp only [nd_s, bn_s, mm_s] at *); omega)
      | (have hlt : i < l.length := by omega
         have hro := List.all_eq_true.1 h1 _ (getD_mem' hlt od)
         first
           | exact rgO_nums hro
           | (have h6 : (refB (l.getD i od).1 (l.getD i od).2.1 (l.getD i od).2.2.1 (l.getD i od).2.2.2.1 (l.getD i od).2.2.2.2.1 (l.getD i od).2.2.2.2.2.1).length ≤ 300 := (rgO_len hro).2.2.2
              simp only [cast_rfl, Int.toNat_natCast]; constructor <;> omega)
           | (refine ⟨i + 1, by omega, by dsimp only; omega, rfl, ?_⟩
              dsimp only
              rw [boO_snoc (d := od) hlt]; rfl))
      | (have e : l.take i = l := List.take_of_length_le (show l.length ≤ i by omega)
         refine ⟨?_, by first | rfl | exact True.intro⟩
         rw [e]; unfold meB meN; simp only [cast_rfl, List.append_assoc]; done)
      | (have hge : l.length ≤ i := by omega
         have e : l.take i = l := List.take_of_length_le hge
         rw [e] at *
         have l2 := bytesN_len (n := 1) (w := 2) (by decide)
         have l3 := bytesN_len (n := meN l) (w := 2) (by decide)
         have l4 := bytesN_len (n := 4 + ((boO l).length : Int)) (w := 2) (by decide)
         have hb := boO_le h1
         unfold meN at *
         first
           | ((try simp only [nd_s, bn_s, mm_s] at *); omega)
           | exact ⟨by decide, by decide⟩
           | (simp only [cast_rfl, List.length_append, List.length_nil]; constructor <;> omega)
           | (simp only [cast_rfl, List.length_append, List.length_nil]; refine ⟨?_, ?_, ?_⟩ <;> omega)
           | trace_state)
      | trace_state
  · cases e
def ir_r10_Encode : IR :=
(.seq
(.keep [0]
(.reg (oD 2 (.mov (.c (.imm (.int .u8) []))) ::
oD 3 (.mov (cI 0)) ::
[])))
(.seq
(.seq
(.reg (oM 4 0 ::
oD 5 (.call false (.f 69) [(.t 4)]) ::
oD 6 (.un .not (.t 5)) ::
[]))
(.cond (.t 6)
(.seq
(.reg (oD 2 (.mov (.c (.imm (.int .u8) []))) ::
oD 3 (.mov (cI 10001)) ::
[]))
.ret)
.skip))
(.seq
(.keep [0]
(.reg (oM 7 0 ::
oD 8 (.call false (.f 70) [(.t 7)]) ::
oM 2 8 ::
oD 3 (.mov (cI 0)) ::
[])))
.ret)))
def rd_r10_Encode : List RD := [.tmp 2 true (some (.int .u8)), .tmp 3 true none]
theorem ok_r10_Encode : fnOk Tryz.prog Tryz.f19 ir_r10_Encode rd_r10_Encode = true := by kernel_rfl
def S_r10_Encode : List AV → List Obj → Option (Prop × AV)
  | [.imm (.cons (.int .i64) (.cons (.int .i64) (.cons .bool (.cons (.int .u64) (.cons (.sl (.int .u8)) (.cons (.sl (.int .u8)) .nil)))))) x], [] => some ((okM x, .tup [.imm (.int .u8) (meL x), .int .i64 (meE x)]))
  | _, _ => none
theorem snd_r10_Encode : SoundS Tryz.prog 19 (RoF S_r10_Encode).sum := by
  refine ro_fn Tryz.func19 ok_r10_Encode (env_cons (s := RoF S_r10_Right) snd_r10_Right (env_cons (s := RoF S_r10_Bytes) snd_r10_Bytes (env_nil _))) fun args objs p v e => ?_
  unfold S_r10_Encode at e
  split at e
  · rename_i x
    cases e
    refine ⟨rfl, fun hw ho hp => ?_⟩
    change List OV at x
    clear hw ho
    have hok := hp
    have hn := hp.n
    repeat' (intro t ht; first | (cases t <;> first | (cases ht; done) | ((try simp only [bn_s] at ht); (try simp only [nd_s] at ht))) | (refine ht ?_ ?_ <;> clear ht) | (refine ht.1 ?_ ?_ <;> clear ht) | (refine ht ?_; clear ht))
    all_goals first
      | exact True.intro
      | exact hok
      | exact ⟨by assumption, hn⟩
      | (unfold meL meE; rw [if_pos (by assumption), if_pos (by assumption)]; exact ⟨rfl, rfl⟩)
      | (have hr : rgM x = false := by assumption
         unfold meL meE; rw [hr]; exact ⟨rfl, rfl⟩)
      | trace_state
  · cases e
end Go.Eng
