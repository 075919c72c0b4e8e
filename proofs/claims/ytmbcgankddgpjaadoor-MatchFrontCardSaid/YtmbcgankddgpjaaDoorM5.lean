/- Contracts of functions of the given program, told by plain Lean functions. No condition. -/
import Derived.Test.YtmbcgankddgpjaaDoorProg
import Derived.Test.YtmbcgankddgpjaaDoorEArg
import Derived.KernelRfl
import Derived.Test.YtmbcgankddgpjaaDoorM4
namespace Go.Eng
open Go.Proofs
set_option linter.unusedVariables false
set_option linter.unusedSimpArgs false
set_option maxRecDepth 100000
set_option maxHeartbeats 1000000
def boO (l : List OV) : List Int := l.flatMap ecO
def meN (l : List OV) : Int := 4 + ((boO l).length : Int)
def meB (l : List OV) : List Int := bytesN 1 2 ++ bytesN (meN l) 2 ++ boO l ++ List.replicate (pz (meN l)).toNat 0
theorem rgO_len {o : OV} (h : rgO o = true) : szO o = (ecO o).length ∧ exO o = ecO o ∧ eeO o = 0 ∧ (ecO o).length ≤ 300 := by
  have h1 := sizeO_right h
  have h2 := enc_law h
  refine ⟨?_, ?_, if_pos h, ?_⟩
  · unfold szO ecO; rw [h1.1, h2]
  · unfold exO ecO; rw [if_pos h, h2]
  · unfold ecO; rw [← h2]; exact h1.2
theorem long_bo : ∀ (l : List OV), l.all rgO = true → (l.map szO).sum = ((boO l).length : Int)
  | [], _ => rfl
  | o :: r, h => by
    rw [List.all_cons, Bool.and_eq_true] at h
    have ih := long_bo r h.2
    unfold boO at ih ⊢
    rw [List.flatMap_cons, List.length_append, List.map_cons, List.sum_cons, ih, (rgO_len h.1).1]; omega
theorem rgM_parts {l : List OV} (h : rgM l = true) : l.all rgO = true ∧ (ckS [] l).2 = 0 ∧ longO l = meN l ∧ meN l ≤ 65528 ∧ 4 ≤ meN l := by
  unfold rgM at h
  simp only [Bool.and_eq_true, decide_eq_true_eq] at h
  obtain ⟨⟨h1, h2⟩, h3⟩ := h
  have h4 : longO l = meN l := by unfold longO meN; rw [long_bo l h1]
  exact ⟨h1, h2, h4, by omega, by unfold meN; omega⟩
theorem puS_ok {room : Int} : ∀ (r : List OV) (l : List Int), r.all rgO = true → (l.length : Int) + (boO r).length ≤ room → puS room r l 0 = (l ++ boO r, 0)
  | [], l, _, _ => by unfold boO puS; simp
  | o :: r, l, h, hl => by
    rw [List.all_cons, Bool.and_eq_true] at h
    obtain ⟨_, h2, h3, _⟩ := rgO_len h.1
    have e1 : boO (o :: r) = ecO o ++ boO r := List.flatMap_cons
    rw [e1, List.length_append] at hl
    obtain ⟨b1, b2⟩ := buf_ok (x := ecO o) (l := l) (room := room) (by omega)
    have f0 : failE 0 0 = 0 := rfl
    unfold puS
    rw [h2, h3, f0, b1, b2, puS_ok r (l ++ ecO o) h.2 (by rw [List.length_append]; omega), e1, List.append_assoc]
/-- A match is written where there is room. -/
theorem mp_ok {x : List OV} {l : List Int} {room : Int} (h : rgM x = true) (hl : (l.length : Int) + meN x + pz (meN x) ≤ room) : mpB x l room 0 = l ++ meB x ∧ mpE x l room 0 = 0 := by
  obtain ⟨h1, h2, h3, h4, h5⟩ := rgM_parts h
  have hz := pz_le (n := meN x) (by omega)
  obtain ⟨r1, r2⟩ := row22 (a := 1) (n := meN x) (by omega) (by omega)
  have l2 := bytesN_len (n := 1) (w := 2) (by decide)
  have l3 := bytesN_len (n := meN x) (w := 2) (by decide)
  have hb : ((putB [2, 2] [1, meN x]).length : Int) = 4 := by rw [r1, List.length_append]; omega
  have hbo : meN x = 4 + (boO x).length := rfl
  obtain ⟨w1, w2⟩ := row_ok (l := l) (room := room) r2 (by omega)
  rw [r1] at w1
  have hS : mpS x l room 0 = (l ++ (bytesN 1 2 ++ bytesN (meN x) 2) ++ boO x, 0) := by
    unfold mpS; rw [h3, w1, w2]
    exact puS_ok x _ h1 (by simp only [List.length_append]; omega)
  obtain ⟨z1, z2⟩ := buf_ok (x := mpZ x) (l := l ++ (bytesN 1 2 ++ bytesN (meN x) 2) ++ boO x) (room := room) (by unfold mpZ; rw [h3]; simp only [List.length_append, List.length_replicate]; omega)
  unfold mpB mpE
  rw [if_pos h, if_pos h, hS, z1, z2]
  refine ⟨?_, rfl⟩
  unfold meB mpZ; rw [h3]; simp only [List.append_assoc]
theorem mp_bad {x : List OV} {l : List Int} {room e : Int} (h : rgM x = false) : mpB x l room e = l ∧ mpE x l room e = failE e 10001 := by
  unfold mpB mpE; rw [h]; exact ⟨rfl, rfl⟩
theorem meB_len (l : List OV) (h : 0 ≤ meN l) : ((meB l).length : Int) = meN l + pz (meN l) := by
  have l2 := bytesN_len (n := 1) (w := 2) (by decide)
  have l3 := bytesN_len (n := meN l) (w := 2) (by decide)
  have hz := pz_le (n := meN l) (by omega)
  have hbo : meN l = 4 + (boO l).length := rfl
  unfold meB
  simp only [List.length_append, List.length_replicate]; omega
def meL (l : List OV) : List Int := if rgM l = true then meB l else []
def meE (l : List OV) : Int := if rgM l = true then 0 else 10001
def ir_match_Encode : IR :=
(.seq
(.keep [0]
(.reg (oD 2 (.mov (.c (.imm (.int .u8) []))) ::
oD 3 (.mov (cI 0)) ::
[])))
(.seq
(.reg (oD 5 (.call false (.f 38) [(cI 65543)]) ::
oM 4 5 ::
[]))
(.seq
(.reg (oM 6 4 ::
oM 7 0 ::
oD 8 (.call false (.f 39) [(.t 6), (.t 7)]) ::
[]))
(.seq
(.keep [4]
(.reg (oM 9 4 ::
oD 10 (.call false (.f 40) [(.t 9)]) ::
oD 11 (.extract (.t 10) 0) ::
oD 12 (.extract (.t 10) 1) ::
oM 2 11 ::
oM 3 12 ::
[])))
.ret))))
def rd_match_Encode : List RD := [.tmp 2 true (some (.int .u8)), .tmp 3 true none]
theorem ok_match_Encode : fnOk Tryd.prog Tryd.f16 ir_match_Encode rd_match_Encode = true := by kernel_rfl
def S_match_Encode : List AV → List Obj → Option (Prop × AV)
  | [.imm (.cons (.int .i64) (.cons (.int .i64) (.cons .bool (.cons (.int .u64) (.cons (.sl (.int .u8)) (.cons (.sl (.int .u8)) .nil)))))) x], [] => some ((okM x, .tup [.imm (.int .u8) (meL x), .int .i64 (meE x)]))
  | _, _ => none
theorem snd_match_Encode : SoundS Tryd.prog 16 (RoF S_match_Encode).sum := by
  refine ro_fn Tryd.func16 ok_match_Encode (env_cons (s := RwF S_buffer_New) snd_buffer_New (env_cons (s := RwF S_match_Put) snd_match_Put (env_cons (s := RwF S_buffer_Buffer_Done) snd_buffer_Buffer_Done (env_nil _)))) fun args objs p v e => ?_
  unfold S_match_Encode at e
  split at e
  · rename_i x
    cases e
    refine ⟨rfl, fun hw ho hp => ?_⟩
    change List OV at x
    clear hw ho
    have hroom : roomF 65543 = 65543 := by decide
    have hok := hp
    cases hr : rgM x with
    | false =>
      obtain ⟨b1, b2⟩ := mp_bad (x := x) (l := []) (room := 65543) (e := 0) hr
      have e1 : meL x = [] := by unfold meL; rw [hr]; rfl
      have e2 : meE x = 10001 := by unfold meE; rw [hr]; rfl
      have f1 : failE 0 10001 = 10001 := rfl
      rw [e1, e2]
      repeat' (intro t ht; first | (cases t <;> first | (cases ht; done) | ((try simp only [bn_s] at ht); (try simp only [nd_s] at ht))) | (refine ht ?_ ?_ <;> clear ht) | (refine ht.1 ?_ ?_ <;> clear ht) | (refine ht ?_; clear ht))
      all_goals (try simp only [hroom, b1, b2, f1] at *)
      all_goals first
        | exact True.intro
        | exact ⟨hok, by decide, by decide, by decide⟩
        | exact ⟨rfl, by first | rfl | exact True.intro⟩
        | (constructor <;> (simp only [List.length_nil]; omega))
        | (exfalso; simp_all; done)
        | trace_state
    | true =>
      obtain ⟨h1, h2, h3, h4, h5⟩ := rgM_parts hr
      have hml := meB_len x (by omega)
      have hz := pz_le (n := meN x) (by omega)
      obtain ⟨b1, b2⟩ := mp_ok (x := x) (l := []) (room := 65543) hr (by simp only [List.length_nil]; omega)
      rw [List.nil_append] at b1
      have e1 : meL x = meB x := if_pos hr
      have e2 : meE x = 0 := if_pos hr
      rw [e1, e2]
      repeat' (intro t ht; first | (cases t <;> first | (cases ht; done) | ((try simp only [bn_s] at ht); (try simp only [nd_s] at ht))) | (refine ht ?_ ?_ <;> clear ht) | (refine ht.1 ?_ ?_ <;> clear ht) | (refine ht ?_; clear ht))
      all_goals (try simp only [hroom, b1, b2] at *)
      all_goals first
        | exact True.intro
        | exact ⟨hok, by decide, by decide, by decide⟩
        | exact ⟨rfl, by first | rfl | exact True.intro⟩
        | (constructor <;> (try simp only [List.length_nil]) <;> omega)
        | (exfalso; simp_all; done)
        | trace_state
  · cases e
theorem rgO_nums {o : OV} (h : rgO o = true) : 0 ≤ o.2.1 ∧ o.2.1 ≤ 127 ∧ 0 ≤ o.1 ∧ o.1 ≤ 65535 ∧ o.2.2.2.2.1.length ≤ 100 ∧ o.2.2.2.2.2.1.length ≤ 100 := by
  have hn := right_nums h
  refine ⟨hn.1, hn.2.1, ?_, ?_, ?_, ?_⟩ <;> omega
def refRO (o : OV) : Bool := refR o.1 o.2.1 o.2.2.1 o.2.2.2.1 o.2.2.2.2.1 o.2.2.2.2.2.1
theorem refRO_eq {o : OV} (h : bysO o) : refRO o = rgO o := (right_law h.1 h.2.1 h.2.2).symm
theorem boO_snoc {l : List OV} {i : Nat} {d : OV} (h : i < l.length) : boO (l.take (i + 1)) = boO (l.take i) ++ ecO (l.getD i d) := by
  unfold boO
  rw [List.take_succ_eq_append_getElem h, List.flatMap_append, List.getD_eq_getElem?_getD, List.getElem?_eq_getElem h]; simp
theorem boO_le {l : List OV} (h : l.all rgO = true) : (boO l).length ≤ 300 * l.length := by
  induction l with
  | nil => simp [boO]
  | cons o r ih =>
    rw [List.all_cons, Bool.and_eq_true] at h
    have e1 : boO (o :: r) = ecO o ++ boO r := List.flatMap_cons
    have := ih h.2
    have h2 := (rgO_len h.1).2.2.2
    rw [e1, List.length_append, List.length_cons]; omega
end Go.Eng
