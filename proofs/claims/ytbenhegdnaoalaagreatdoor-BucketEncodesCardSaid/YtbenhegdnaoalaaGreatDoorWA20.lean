/- Parts of the proof: H2, H3, H4, Z1, F6. No condition. -/
import Derived.Test.YtbenhegdnaoalaaGreatDoorProg
import Derived.Test.YtbenhegdnaoalaaGreatDoorWA10
import Derived.KernelRfl
import Derived.Test.YtbenhegdnaoalaaGreatDoorWA19
import Derived.Test.YtbenhegdnaoalaaGreatDoorWA16
import Derived.Test.YtbenhegdnaoalaaGreatDoorWA17
import Derived.Test.YtbenhegdnaoalaaGreatDoorWA13
namespace Go.Eng
open Go.Proofs
set_option linter.unusedVariables false
set_option linter.unusedSimpArgs false
set_option maxRecDepth 100000
set_option maxHeartbeats 1000000
def wrS {α : Type} (x : α → List Int) (f : α → Int) (room : Int) : List α → List Int → Int → List Int × Int
  | [], l, e => (l, e)
  | o :: r, l, e => wrS x f room r (bufB (x o) l room (failE e (f o))) (bufE (x o) l room (failE e (f o)))
theorem wrS_step {α : Type} {x : α → List Int} {f : α → Int} {room : Int} {l : List α} {i : Nat} {d : α} {b : List Int} {e : Int} (h : i < l.length) : wrS x f room (l.drop i) b e = wrS x f room (l.drop (i + 1)) (bufB (x (l.getD i d)) b room (failE e (f (l.getD i d)))) (bufE (x (l.getD i d)) b room (failE e (f (l.getD i d)))) := by
  rw [drop_step h d]; rfl
def apB (x : List AC) (l : List Int) (room e : Int) : List Int := if rgL x = true then (wrS exA eeA room x l e).1 else l
def apE (x : List AC) (l : List Int) (room e : Int) : Int := if rgL x = true then (wrS exA eeA room x l e).2 else failE e 10001
theorem exA_le {a : AC} : (exA a).length ≤ 1000000 := by
  unfold exA; split
  · have := szA_1 (by assumption); omega
  · simp
def ir_acts_Put : IR :=
(.seq
(.seq
(.keep [0, 1]
(.reg (oM 8 1 ::
oD 9 (.call false (.f 138) [(.t 8)]) ::
oD 10 (.un .not (.t 9)) ::
[])))
(.cond (.t 10)
(.seq
(.reg (oM 11 0 ::
oD 12 (.call false (.f 83) [(.t 11), (cI 10001)]) ::
[]))
.ret)
.skip))
(.seq
(.reg (oM 13 1 ::
oD 14 (.len (.t 13)) ::
oD 15 (.mov (cI 0)) ::
[]))
(.block 0
(.loop
(.seq
(.keep [0, 13, 14, 15]
(.reg (oD 16 (.bin .lss (.t 15) (.t 14)) ::
[])))
(.seq
(.cond (.t 16)
.skip
(.exit 0))
(.seq
(.block 1
(.seq
(.reg (oD 17 (.indexSl 10 (.t 13) (.t 15)) ::
oD 18 (.load (some 10) (.t 17)) ::
oD 5 (.box [.int .i64 0, .int .u64 0, .int .u64 0, .int .i64 0, .int .i64 0, .kb false, .int .u64 0, .imm (.int .u8) [], .imm (.int .u8) [], .imm (.int .u8) []]) ::
oN (.store 10 (.t 5) (.t 18)) ::
[]))
(.seq
(.keep [0, 5, 13, 14, 15]
(.reg (oD 20 (.load (some 10) (.t 5)) ::
oD 21 (.call false (.f 202) [(.t 20)]) ::
oM 19 21 ::
oD 22 (.extract (.t 19) 0) ::
oD 23 (.extract (.t 19) 1) ::
oM 6 22 ::
oM 7 23 ::
[])))
(.seq
(.keep [0, 6, 7, 13, 14, 15]
(.reg (oM 24 0 ::
oM 25 7 ::
oD 26 (.call false (.f 83) [(.t 24), (.t 25)]) ::
[])))
(.reg (oM 27 0 ::
oM 28 6 ::
oD 29 (.call false (.f 39) [(.t 27), (.t 28)]) ::
[]))))))
(.keep [0, 13, 14, 15]
(.reg (oD 30 (.bin .add (.t 15) (cI 1)) ::
oM 15 30 ::
[]))))))))))
def rd_acts_Put : List RD := []
theorem ok_acts_Put : fnOk Tryz.prog Tryz.f140 ir_acts_Put rd_acts_Put = true := by kernel_rfl
def W_acts_Put : List AV → List Obj → Option (Prop × Res)
  | [.ptr 0 0, .imm (.cons (.int .i64) (.cons (.int .u64) (.cons (.int .u64) (.cons (.cons (.int .i64) (.cons (.int .i64) (.cons .bool (.cons (.int .u64) (.cons (.sl (.int .u8)) (.cons (.sl (.int .u8)) .nil)))))) (.cons (.sl (.int .u8)) .nil))))) x], [.box [.own 1, .int .i64 room, .mapv 2, .int .i64 e], .row false (.int .u8) l, .map sq (.int .i64) (.int .i64) h] => some (okL x ∧ 0 ≤ room ∧ room ≤ 1000000 ∧ l.length ≤ 1000000, .br (rgL x && decide (0 < x.length)) (.one (.tup []) [.box [.own 3, .int .i64 room, .mapv 2, .int .i64 (apE x l room e)], .dead, .map sq (.int .i64) (.int .i64) h, .row false (.int .u8) (apB x l room e)]) (.one (.tup []) [.box [.own 1, .int .i64 room, .mapv 2, .int .i64 (apE x l room e)], .row false (.int .u8) l, .map sq (.int .i64) (.int .i64) h]))
  | _, _ => none
def S_acts_Put : List AV → List Obj → Option (Prop × AV × List Obj)
  | [.ptr 0 0, .imm (.cons (.int .i64) (.cons (.int .u64) (.cons (.int .u64) (.cons (.cons (.int .i64) (.cons (.int .i64) (.cons .bool (.cons (.int .u64) (.cons (.sl (.int .u8)) (.cons (.sl (.int .u8)) .nil)))))) (.cons (.sl (.int .u8)) .nil))))) x], [.box [.own 1, .int .i64 room, .mapv 2, .int .i64 e], .row false (.int .u8) l, .map sq (.int .i64) (.int .i64) h] => some (okL x ∧ 0 ≤ room ∧ room ≤ 1000000 ∧ l.length ≤ 1000000, .tup [], [.box [.own 3, .int .i64 room, .mapv 2, .int .i64 (apE x l room e)], .dead, .map sq (.int .i64) (.int .i64) h, .row false (.int .u8) (apB x l room e)])
  | _, _ => none
theorem wnd_acts_Put : SoundS Tryz.prog 140 (RcF W_acts_Put).sum := by
  refine rc_fn Tryz.func140 ok_acts_Put (env_cons (s := RoF S_acts_Right) snd_acts_Right (env_cons (s := RwF S_buffer_Buffer_Fail) snd_buffer_Buffer_Fail (env_cons (s := RoF S_action_Encode) snd_action_Encode (env_cons (s := RwF S_buffer_Buffer_Bytes) snd_buffer_Buffer_Bytes (env_nil _))))) fun args objs p v e => ?_
  unfold W_acts_Put at e
  split at e
  · rename_i x room e l sq h
    cases e
    change List Int at l
    change List AC at x
    refine ⟨rfl, fun hw' ho hp => ?_⟩
    clear hw' ho
    obtain ⟨hok, hp1, hp2, hp3⟩ := hp
    have hok' := hok
    have hn := hok.n
    cases hr : rgL x with
    | false =>
      have e1 : apE x l room e = failE e 10001 := by unfold apE; rw [hr]; rfl
      rw [e1]
      repeat' (intro t ht; first | (cases t <;> first | (cases ht; done) | ((try simp only [bn_s] at ht); (try simp only [nd_s] at ht); (try (exfalso; first | contradiction | omega)))) | (refine ht ?_ ?_ <;> clear ht) | (refine ht.1 ?_ ?_ <;> clear ht) | (refine ht ?_; clear ht))
      all_goals first
        | exact True.intro
        | exact hok
        | (exfalso; simp_all; done)
        | exact ⟨rfl, rfl⟩
        | trace_state
    | true =>
      have q1 : apE x l room e = (wrS exA eeA room x l e).2 := if_pos hr
      have q2 : apB x l room e = (wrS exA eeA room x l e).1 := if_pos hr
      rw [q1, q2]
      repeat' (intro t ht; first | (cases t <;> first | (cases ht; done) | ((try simp only [bn_s] at ht); (try simp only [nd_s] at ht); (try (exfalso; first | contradiction | omega)))) | (refine ht ?_ ?_ <;> clear ht) | (refine ht.1 ?_ ?_ <;> clear ht) | (refine ht ?_; clear ht))
      all_goals first
        | exact True.intro
        | exact hok
        | (exfalso; simp_all; done)
        | (intro r h1 h2; clear h1; refine h2 ⟨[0, 13, 14, 15], Option (Nat × List Int × Int), (fun a => match a with | none => True | some a => 0 < a.1 ∧ a.1 ≤ x.length ∧ a.2.1.length ≤ 1000000 ∧ wrS exA eeA room x l e = wrS exA eeA room (x.drop a.1) a.2.1 a.2.2), (fun a => match a with | none => [.ptr 0 0, .imm (.cons (.int .i64) (.cons (.int .u64) (.cons (.int .u64) (.cons (.cons (.int .i64) (.cons (.int .i64) (.cons .bool (.cons (.int .u64) (.cons (.sl (.int .u8)) (.cons (.sl (.int .u8)) .nil)))))) (.cons (.sl (.int .u8)) .nil))))) x, .int .i64 x.length, .int .i64 0] | some a => [.ptr 0 0, .imm (.cons (.int .i64) (.cons (.int .u64) (.cons (.int .u64) (.cons (.cons (.int .i64) (.cons (.int .i64) (.cons .bool (.cons (.int .u64) (.cons (.sl (.int .u8)) (.cons (.sl (.int .u8)) .nil)))))) (.cons (.sl (.int .u8)) .nil))))) x, .int .i64 x.length, .int .i64 a.1]), (fun a => match a with | none => [.box [.own 1, .int .i64 room, .mapv 2, .int .i64 e], .row false (.int .u8) l, .map sq (.int .i64) (.int .i64) h] | some a => [.box [.own 3, .int .i64 room, .mapv 2, .int .i64 a.2.2], .dead, .map sq (.int .i64) (.int .i64) h, .row false (.int .u8) a.2.1]), (fun a => match a with | none => x.length + 1 | some a => x.length - a.1), ⟨none, True.intro, rfl, rfl⟩, ?_⟩; clear h2)
        | trace_state
      rintro (_ | ⟨i, b, f⟩) hJ
      · repeat' (intro t ht; first | (cases t <;> first | (cases ht; done) | ((try simp only [bn_s] at ht); (try simp only [nd_s] at ht); (try (exfalso; first | contradiction | omega)))) | (refine ht ?_ ?_ <;> clear ht) | (refine ht.1 ?_ ?_ <;> clear ht) | (refine ht ?_; clear ht))
        all_goals (try generalize (Ty.dflt (.cons (.int .i64) (.cons (.int .u64) (.cons (.int .u64) (.cons (.cons (.int .i64) (.cons (.int .i64) (.cons .bool (.cons (.int .u64) (.cons (.sl (.int .u8)) (.cons (.sl (.int .u8)) .nil)))))) (.cons (.sl (.int .u8)) .nil)))))) = od at *)
        all_goals first
          | exact True.intro
          | ((try simp only [nd_s, bn_s, mm_s] at *); omega)
          | exact ⟨hp1, hp2, hp3, exA_le (a := x.getD 0 od)⟩
          | exact lenAM (hok'.a _ (getD_mem' (show 0 < x.length by omega) od))
          | (have hx : x = [] := List.eq_nil_of_length_eq_zero (by omega)
             subst hx; exact ⟨rfl, rfl⟩)
          | (have hs := wrS_step (x := exA) (f := eeA) (room := room) (l := x) (i := 0) (d := od) (b := l) (e := e) (by omega)
             refine ⟨some (1, bufB (exA (x.getD 0 od)) l room (failE e (eeA (x.getD 0 od))), bufE (exA (x.getD 0 od)) l room (failE e (eeA (x.getD 0 od)))), ⟨Nat.one_pos, ?_, ?_, hs⟩, ?_, rfl, rfl⟩
             · dsimp only; omega
             · exact bufB_lim hp3 hp2
             · dsimp only; omega)
          | trace_state
      · obtain ⟨hi0, hi, hb, he⟩ := hJ
        dsimp only at hi0 hi hb he
        repeat' (intro t ht; first | (cases t <;> first | (cases ht; done) | ((try simp only [bn_s] at ht); (try simp only [nd_s] at ht); (try (exfalso; first | contradiction | omega)))) | (refine ht ?_ ?_ <;> clear ht) | (refine ht.1 ?_ ?_ <;> clear ht) | (refine ht ?_; clear ht))
        all_goals (try generalize (Ty.dflt (.cons (.int .i64) (.cons (.int .u64) (.cons (.int .u64) (.cons (.cons (.int .i64) (.cons (.int .i64) (.cons .bool (.cons (.int .u64) (.cons (.sl (.int .u8)) (.cons (.sl (.int .u8)) .nil)))))) (.cons (.sl (.int .u8)) .nil)))))) = od at *)
        all_goals first
          | exact True.intro
          | ((try simp only [nd_s, bn_s, mm_s] at *); omega)
          | exact ⟨hp1, hp2, hb, exA_le (a := x.getD i od)⟩
          | exact lenAM (hok'.a _ (getD_mem' (show i < x.length by omega) od))
          | (rw [List.drop_of_length_le (show x.length ≤ i by omega)] at he
             have h1 : wrS exA eeA room x l e = (b, f) := he
             rw [h1, decide_eq_true (show 0 < x.length by omega)]; exact ⟨rfl, rfl⟩)
          | (refine ⟨some (i + 1, bufB (exA (x.getD i od)) b room (failE f (eeA (x.getD i od))), bufE (exA (x.getD i od)) b room (failE f (eeA (x.getD i od)))), ⟨?_, ?_, ?_, he.trans (wrS_step (d := od) (show i < x.length by omega))⟩, ?_, rfl, rfl⟩
             · dsimp only; omega
             · dsimp only; omega
             · exact bufB_lim hb hp2
             · dsimp only; omega)
          | trace_state
  · cases e
theorem snd_acts_Put : SoundS Tryz.prog 140 (RwF S_acts_Put).sum := by
  refine rc_move wnd_acts_Put fun args objs p v o e => ?_
  unfold S_acts_Put at e
  split at e
  · rename_i x room e l sq h
    cases e
    cases hb : (rgL x && decide (0 < x.length)) with
    | true => exact ⟨_, _, rfl, pick_t hb, .inl rfl⟩
    | false =>
      refine ⟨_, _, rfl, pick_f hb, .inr ⟨0, 1, [], [.int .i64 room, .mapv 2, .int .i64 (apE x l room e)], .int .u8, l, rfl, rfl, ?_⟩⟩
      have e1 : apB x l room e = l := by
        unfold apB
        split
        · rename_i hr
          rw [hr, Bool.true_and, decide_eq_false_iff_not] at hb
          have hx : x = [] := List.eq_nil_of_length_eq_zero (by omega)
          subst hx; rfl
        · rfl
      rw [e1]; rfl
  · cases e
def boA (l : List AC) : List Int := l.flatMap ebA
theorem boA_cons (o : AC) (r : List AC) : boA (o :: r) = ebA o ++ boA r := List.flatMap_cons
theorem boA_len : ∀ (l : List AC), l.all rgA = true → ((boA l).length : Int) = smL l ∧ 8 * l.length ≤ (boA l).length
  | [], _ => ⟨rfl, Nat.le_refl _⟩
  | o :: r, h => by
    rw [List.all_cons, Bool.and_eq_true] at h
    obtain ⟨i1, i2⟩ := boA_len r h.2
    have hs := szA_1 h.1
    unfold smL at i1 ⊢
    rw [boA_cons, List.length_append, List.map_cons, List.sum_cons, List.length_cons]; omega
theorem rgL_parts {l : List AC} (h : rgL l = true) : l.all rgA = true ∧ l.length ≤ 64 ∧ (boA l).length ≤ 65528 ∧ szL l = (boA l).length := by
  unfold rgL at h
  rw [Bool.or_eq_true, decide_eq_true_eq, decide_eq_true_eq] at h
  rcases h with h | h
  · have : l = [] := List.eq_nil_of_length_eq_zero h
    subst this; exact ⟨rfl, Nat.zero_le _, Nat.zero_le _, rfl⟩
  · unfold szL at h ⊢
    by_cases h1 : 64 < l.length
    · rw [if_pos h1] at h; omega
    · rw [if_neg h1] at h ⊢
      by_cases h2 : l.all rgA = true
      · rw [if_pos h2] at h ⊢
        by_cases h3 : 65528 < smL l
        · rw [if_pos h3] at h; omega
        · rw [if_neg h3]
          obtain ⟨b1, b2⟩ := boA_len l h2
          exact ⟨h2, by omega, by omega, b1.symm⟩
      · rw [if_neg h2] at h; omega
theorem rgL_of {l : List AC} (h1 : l.all rgA = true) (h2 : l.length ≤ 64) (h3 : (boA l).length ≤ 65528) : rgL l = true := by
  obtain ⟨b1, b2⟩ := boA_len l h1
  unfold rgL szL
  rw [if_neg (by omega), if_pos h1, if_neg (by omega), Bool.or_eq_true, decide_eq_true_eq, decide_eq_true_eq]
  omega
theorem szL_no {l : List AC} (h : rgL l = false) : szL l = 0 := by
  unfold rgL at h
  rw [Bool.or_eq_false_iff, decide_eq_false_iff_not, decide_eq_false_iff_not] at h
  have : 0 ≤ szL l := by
    unfold szL; repeat' split
    all_goals first | omega | skip
    have := smT_le (l := l) l.length (Nat.le_refl _)
    rw [smT_end (Nat.le_refl _)] at this; omega
  omega
theorem ex_of {a : AC} (h : rgA a = true) : exA a = ebA a ∧ eeA a = 0 := ⟨if_pos h, if_pos h⟩
theorem wrA_ok {room : Int} : ∀ (r : List AC) (l : List Int), r.all rgA = true → (l.length : Int) + (boA r).length ≤ room → wrS exA eeA room r l 0 = (l ++ boA r, 0)
  | [], l, _, _ => by unfold boA wrS; simp
  | o :: r, l, h, hl => by
    rw [List.all_cons, Bool.and_eq_true] at h
    obtain ⟨h2, h3⟩ := ex_of h.1
    rw [boA_cons, List.length_append] at hl
    obtain ⟨b1, b2⟩ := buf_ok (x := ebA o) (l := l) (room := room) (by omega)
    have f0 : failE 0 0 = 0 := rfl
    unfold wrS
    rw [h2, h3, f0, b1, b2, wrA_ok r (l ++ ebA o) h.2 (by rw [List.length_append]; omega), boA_cons, List.append_assoc]
theorem ap_ok {x : List AC} {l : List Int} {room : Int} (h : rgL x = true) (hl : (l.length : Int) + (boA x).length ≤ room) : apB x l room 0 = l ++ boA x ∧ apE x l room 0 = 0 := by
  unfold apB apE
  rw [if_pos h, if_pos h, wrA_ok x l (rgL_parts h).1 hl]; exact ⟨rfl, rfl⟩
def alL (l : List AC) : List Int := if rgL l = true then boA l else []
def alE (l : List AC) : Int := if rgL l = true then 0 else 10001
end Go.Eng
namespace Go.Eng
open Go.Proofs
set_option linter.unusedVariables false
set_option linter.unusedSimpArgs false
set_option maxRecDepth 100000
set_option maxHeartbeats 1000000
def vA (y : List Int) : AC := (tT y, acA y 0, acA y 1, (acS y (decC (bd y)), acS y (decF (bd y)), acH y, acS y (decX (bd y)), acV y (decV (bd y)), acV y (decM (bd y)), ()), acD y, ())
def alG (acc : List AC) (y : List Int) : List AC × Int :=
  if y.length = 0 then (acc, 0) else if acc.length = 64 then ([], 520) else if ¬ acE y = 0 then ([], acE y) else alG (acc ++ [vA y]) (y.drop (max 1 (tN y).toNat))
termination_by y.length
decreasing_by all_goals (rw [List.length_drop]; omega)
theorem alG_nil {acc : List AC} {y : List Int} (h : y.length = 0) : alG acc y = (acc, 0) := by rw [alG, if_pos h]
theorem alG_many {acc : List AC} {y : List Int} (h : ¬ y.length = 0) (h1 : acc.length = 64) : alG acc y = ([], 520) := by rw [alG, if_neg h, if_pos h1]
theorem alG_bad {acc : List AC} {y : List Int} (h : ¬ y.length = 0) (h1 : ¬ acc.length = 64) (h2 : ¬ acE y = 0) : alG acc y = ([], acE y) := by rw [alG, if_neg h, if_neg h1, if_pos h2]
theorem alG_ok {acc : List AC} {y : List Int} (h : ¬ y.length = 0) (h1 : ¬ acc.length = 64) (h2 : acE y = 0) (hn : 1 ≤ tN y) : alG acc y = alG (acc ++ [vA y]) (y.drop (tN y).toNat) := by
  rw [alG, if_neg h, if_neg h1, if_neg (not_not_intro h2), show max 1 (tN y).toNat = (tN y).toNat by omega]
theorem acN_ge {b : List Int} (h0 : acE b = 0) : 8 ≤ tN b ∧ tN b ≤ b.length ∧ (tN b).tmod 8 = 0 := by
  have hT : tlE b 8 8 514 = 0 := Classical.byContradiction fun h => by
    unfold acE at h0; rw [if_pos h] at h0; exact h h0
  unfold tlE at hT
  by_cases h1 : b.length < 4
  · rw [if_pos h1] at hT; cases hT
  · rw [if_neg h1] at hT
    by_cases h2 : tN b < 8 ∨ ¬ (tN b).tmod 8 = 0
    · rw [if_pos h2] at hT; cases hT
    · rw [if_neg h2] at hT
      by_cases h3 : (b.length : Int) < tN b
      · rw [if_pos h3] at hT; cases hT
      · omega
def adE (b : List Int) : Int := if ¬ (alG [] b).2 = 0 then (alG [] b).2 else if 65528 < b.length then 514 else 0
def adL (b : List Int) : List AC := if adE b = 0 then (alG [] b).1 else []
theorem ad_bad {b : List Int} {e : Int} (h : (alG [] b).2 = e) (h0 : ¬ e = 0) : adL b = [] ∧ adE b = e := by
  have : adE b = e := by unfold adE; rw [h, if_pos h0]
  exact ⟨by unfold adL; rw [this, if_neg h0], this⟩
theorem ad_end {b : List Int} {acc : List AC} (h : alG [] b = (acc, 0)) : (65528 < b.length → adL b = [] ∧ adE b = 514) ∧ (¬ 65528 < b.length → adL b = acc ∧ adE b = 0) := by
  have e : adE b = if 65528 < b.length then 514 else 0 := by unfold adE; rw [h]; rfl
  constructor
  · intro hl
    rw [if_pos hl] at e
    exact ⟨by unfold adL; rw [e]; rfl, e⟩
  · intro hl
    rw [if_neg hl] at e
    exact ⟨by unfold adL; rw [e, h]; rfl, e⟩
def ir_acts_each : IR :=
(.seq
(.keep [0]
(.reg (oD 1 (.boxv (.t 0)) ::
oD 2 (.mov (.c (.undef))) ::
[])))
(.seq
(.reg (oD 3 (.mkfn 265 [] [(.t 1)]) ::
oM 2 3 ::
[]))
.ret))
def rd_acts_each : List RD := [.tmp 2 true none]
theorem ok_acts_each : fnOk Tryz.prog Tryz.f238 ir_acts_each rd_acts_each = true := by kernel_rfl
def S_acts_each : List AV → List Obj → Option (Prop × AV × List Obj)
  | [.imm (.int .u8) b], [] => some ((True, .fn 265 [] [.ptr 0 0], [.box [.imm (.int .u8) b]]))
  | _, _ => none
theorem snd_acts_each : SoundS Tryz.prog 238 (RwF S_acts_each).sum := by
  refine rw_fn Tryz.func238 ok_acts_each (env_nil _) fun args objs p v o e => ?_
  unfold S_acts_each at e
  split at e
  · rename_i b
    cases e
    refine ⟨rfl, fun hw ho hp => ?_⟩
    change List Int at b
    repeat' (intro t ht; first | (cases t <;> first | (cases ht; done) | ((try simp only [bn_s] at ht); (try simp only [nd_s] at ht); (try (exfalso; first | contradiction | omega)))) | (refine ht ?_ ?_ <;> clear ht) | (refine ht.1 ?_ ?_ <;> clear ht) | (refine ht ?_; clear ht))
    all_goals first
      | exact True.intro
      | exact ⟨rfl, rfl⟩
      | trace_state
  · cases e
def ir_acts_Decode : IR :=
(.seq
(.keep [0]
(.reg (oD 2 (.box [.nils]) ::
oD 3 (.box [.int .i64 0]) ::
[])))
(.seq
(.reg (oD 4 (.box [.nils]) ::
[]))
(.seq
(.seq
(.reg (oM 7 0 ::
oD 8 (.call false (.f 238) [(.t 7)]) ::
[]))
(.block 0
(.rng 8 [9, 10] [0, 2, 3, 4] 265
(.seq
(.keep [2, 3, 4, 9, 10]
(.reg (oD 5 (.box [.int .i64 0, .int .u64 0, .int .u64 0, .int .i64 0, .int .i64 0, .kb false, .int .u64 0, .nils, .nils, .nils]) ::
oN (.store 10 (.t 5) (.t 9)) ::
[])))
(.reg (oM 6 10 ::
[])))
(.block 1
(.seq
(.seq
(.keep [2, 3, 4, 5, 6]
(.reg (oM 11 6 ::
oD 12 (.bin .neq (.t 11) (cI 0)) ::
[])))
(.cond (.t 12)
(.seq
(.reg (oM 13 6 ::
oN (.store 1 (.t 2) (.c (.nils))) ::
oN (.store 1 (.t 3) (.t 13)) ::
[]))
.ret)
.skip))
(.reg (oL 14 4 ::
oD 15 (.load (some 10) (.t 5)) ::
oD 16 (.sliceAll (.cons (.int .i64) (.cons (.int .u64) (.cons (.int .u64) (.cons (.cons (.int .i64) (.cons (.int .i64) (.cons .bool (.cons (.int .u64) (.cons (.sl (.int .u8)) (.cons (.sl (.int .u8)) .nil)))))) (.cons (.sl (.int .u8)) .nil))))) 1 [(0, 10, (.t 15))]) ::
oD 17 (.append (.cons (.int .i64) (.cons (.int .u64) (.cons (.int .u64) (.cons (.cons (.int .i64) (.cons (.int .i64) (.cons .bool (.cons (.int .u64) (.cons (.sl (.int .u8)) (.cons (.sl (.int .u8)) .nil)))))) (.cons (.sl (.int .u8)) .nil))))) 128 (.t 14) (.t 16)) ::
oN (.store 1 (.t 4) (.t 17)) ::
[]))))
(.seq
(.keep [0, 1]
(.reg (oD 3 (.mov (cI 0)) ::
[])))
(.block 0
(.loop
(.seq
(.seq
(.keep [0, 1, 3]
(.reg (oL 7 1 ::
oD 8 (.len (.t 7)) ::
oD 9 (.bin .gtr (.t 8) (cI 0)) ::
[])))
(.cond (.t 9)
.skip
(.exit 0)))
(.seq
(.block 1
(.seq
(.seq
(.reg (oM 12 3 ::
oD 13 (.bin .eql (.t 12) (cI 64)) ::
[]))
(.cond (.t 13)
(.seq
(.keep [0]
(.yld (oM 14 0 ::
oD 15 (.build [.int .i64 0, .int .u64 0, .int .u64 0, .int .i64 0, .int .i64 0, .kb false, .int .u64 0, .imm (.int .u8) [], .imm (.int .u8) [], .imm (.int .u8) []] []) ::
[]) (some 16) (.t 14) [(.t 15), (.c (.int .i64 520))] [] ([])))
.ret)
.skip))
(.seq
(.keep [0, 1, 3]
(.reg (oL 18 1 ::
oD 19 (.call false (.f 266) [(.t 18)]) ::
oM 17 19 ::
oD 20 (.extract (.t 17) 0) ::
oD 21 (.extract (.t 17) 1) ::
oD 22 (.extract (.t 17) 2) ::
oD 4 (.box [.int .i64 0, .int .u64 0, .int .u64 0, .int .i64 0, .int .i64 0, .kb false, .int .u64 0, .imm (.int .u8) [], .imm (.int .u8) [], .imm (.int .u8) []]) ::
oN (.store 10 (.t 4) (.t 20)) ::
oM 5 21 ::
oM 6 22 ::
[])))
(.seq
(.seq
(.keep [0, 1, 3, 4, 5, 6]
(.yld (oM 23 0 ::
oD 24 (.load (some 10) (.t 4)) ::
oM 25 6 ::
[]) (some 26) (.t 23) [(.t 24), (.t 25)] [0, 1, 3, 5, 6] (oD 27 (.un .not (.t 26)) ::
oM 28 27 ::
oF 28 29 (.mov (.t 6)) ::
oF 28 30 (.bin .neq (.t 29) (cI 0)) ::
oD 31 (.pick (.t 28) cT (.t 30)) ::
[])))
(.cond (.t 31)
.ret
.skip))
(.keep [0, 1, 3, 5]
(.reg (oL 32 1 ::
oM 33 5 ::
oD 34 (.slice 1 (.t 32) (some (.t 33)) none none) ::
oN (.store 1 (.t 1) (.t 34)) ::
[])))))))
(.keep [0, 1, 3]
(.reg (oM 10 3 ::
oD 11 (.bin .add (.t 10) (cI 1)) ::
oM 3 11 ::
[])))))))))))
(.seq
(.seq
(.keep [0, 2, 3, 4]
(.reg (oM 18 0 ::
oD 19 (.len (.t 18)) ::
oD 20 (.bin .gtr (.t 19) (cI 65528)) ::
[])))
(.cond (.t 20)
(.seq
(.reg (oN (.store 1 (.t 2) (.c (.nils))) ::
oN (.store 1 (.t 3) (cI 514)) ::
[]))
.ret)
.skip))
(.seq
(.reg (oL 21 4 ::
oN (.store 1 (.t 2) (.t 21)) ::
oN (.store 1 (.t 3) (cI 0)) ::
[]))
.ret)))))
def rd_acts_Decode : List RD := [.cell 2 none true [(some (.cons (.int .i64) (.cons (.int .u64) (.cons (.int .u64) (.cons (.cons (.int .i64) (.cons (.int .i64) (.cons .bool (.cons (.int .u64) (.cons (.sl (.int .u8)) (.cons (.sl (.int .u8)) .nil)))))) (.cons (.sl (.int .u8)) .nil))))))], .cell 3 none true []]
theorem ok_acts_Decode : fnOk Tryz.prog Tryz.f200 ir_acts_Decode rd_acts_Decode = true := by kernel_rfl
def S_acts_Decode : List AV → List Obj → Option (Prop × AV)
  | [.imm (.int .u8) b], [] => some ((b.length ≤ 100000000, .tup [.imm (.cons (.int .i64) (.cons (.int .u64) (.cons (.int .u64) (.cons (.cons (.int .i64) (.cons (.int .i64) (.cons .bool (.cons (.int .u64) (.cons (.sl (.int .u8)) (.cons (.sl (.int .u8)) .nil)))))) (.cons (.sl (.int .u8)) .nil))))) (adL b), .int .i64 (adE b)]))
  | _, _ => none
theorem snd_acts_Decode : SoundS Tryz.prog 200 (RoF S_acts_Decode).sum := by
  refine ro_fn Tryz.func200 ok_acts_Decode (env_cons (s := RoF S_action_Decode) snd_action_Decode (env_cons (s := RwF S_acts_each) snd_acts_each (env_nil _))) fun args objs p v e => ?_
  unfold S_acts_Decode at e
  split at e
  · rename_i b
    cases e
    refine ⟨rfl, fun hw ho hp => ?_⟩
    change List Int at b
    clear hw ho
    repeat' (intro t ht; first | (cases t <;> first | (cases ht; done) | ((try simp only [bn_s] at ht); (try simp only [nd_s] at ht); (try (exfalso; first | contradiction | omega)))) | (refine ht ?_ ?_ <;> clear ht) | (refine ht.1 ?_ ?_ <;> clear ht) | (refine ht ?_; clear ht))
    all_goals first
      | exact True.intro
      | (refine .inl fun lr ln => ?_)
      | trace_state
    repeat' (intro t ht; first | (cases t <;> first | (cases ht; done) | ((try simp only [bn_s] at ht); (try simp only [nd_s] at ht); (try (exfalso; first | contradiction | omega)))) | (refine ht ?_ ?_ <;> clear ht) | (refine ht.1 ?_ ?_ <;> clear ht) | (refine ht ?_; clear ht))
    all_goals first
      | exact True.intro
      | (intro r h1 h2; clear h1; refine h2 ⟨[0, 1, 3], Option (List AC × List Int), (fun a => match a with | none => True | some a => a.1.length ≤ 64 ∧ a.2.length ≤ b.length ∧ alG [] b = alG a.1 a.2), (fun a => match a with | none => [.yv ln, .ptr 0 0, .int .i64 0] | some a => [.yv ln, .ptr 0 0, .int .i64 a.1.length]), (fun a => match a with | none => [.box [.imm (.int .u8) b], .box [.nils], .box [.int .i64 0], .box [.nils], .lrec lr 0] | some a => [.box [.imm (.int .u8) a.2], .box [.nils], .box [.int .i64 0], .box [.own 5], .lrec lr 0, .row false (.cons (.int .i64) (.cons (.int .u64) (.cons (.int .u64) (.cons (.cons (.int .i64) (.cons (.int .i64) (.cons .bool (.cons (.int .u64) (.cons (.sl (.int .u8)) (.cons (.sl (.int .u8)) .nil)))))) (.cons (.sl (.int .u8)) .nil))))) a.1]), (fun a => match a with | none => b.length + 1 | some a => a.2.length), ⟨none, True.intro, rfl, rfl⟩, ?_⟩; clear h2)
      | trace_state
    rintro (_ | ⟨acc, y⟩) hJ
    · clear hJ
      repeat' (intro t ht; first | (cases t <;> first | (cases ht; done) | ((try simp only [bn_s] at ht); (try simp only [nd_s] at ht); (try (exfalso; first | contradiction | omega)))) | (refine ht ?_ ?_ <;> clear ht) | (refine ht.1 ?_ ?_ <;> clear ht) | (refine ht ?_; clear ht))
      all_goals (try dsimp only at *)
      all_goals first
        | exact True.intro
        | ((try simp only [nd_s, bn_s, mm_s] at *); omega)
        | exact ⟨rfl, rfl⟩
        | (have hg := alG_nil (acc := []) (y := b) (by omega)
           rw [((ad_end hg).2 (by omega)).1, ((ad_end hg).2 (by omega)).2]; exact ⟨rfl, rfl⟩)
        | (simp only [cast_rfl, List.length_cons, List.length_nil]; constructor <;> omega)
        | (have h0 : acE b = 0 := by assumption
           obtain ⟨g1, g2, _⟩ := acN_ge h0
           have e1 : ∀ x, acI b x = x := fun x => if_pos h0
           first
             | (rw [e1]; constructor <;> omega)
             | (have hm := alG_ok (acc := []) (by omega) (by decide) h0 (by omega)
                refine ⟨some ([] ++ [vA b], b.drop (tN b).toNat), ⟨by simp, ?_, hm⟩, ?_, rfl, ?_⟩
                · dsimp only; rw [List.length_drop]; omega
                · dsimp only; rw [List.length_drop]; omega
                · dsimp only; rw [e1, e1]; rfl))
        | (have h0 : ¬ acE b = 0 := by assumption
           have hm := alG_bad (acc := []) (by omega) (by decide) h0
           obtain ⟨d1, d2⟩ := ad_bad (b := b) (e := acE b) (by rw [hm]) h0
           rw [d1, d2]; exact ⟨rfl, rfl⟩)
        | trace_state
    · obtain ⟨j1, j2, j3⟩ := hJ
      dsimp only at j1 j2 j3
      repeat' (intro t ht; first | (cases t <;> first | (cases ht; done) | ((try simp only [bn_s] at ht); (try simp only [nd_s] at ht); (try (exfalso; first | contradiction | omega)))) | (refine ht ?_ ?_ <;> clear ht) | (refine ht.1 ?_ ?_ <;> clear ht) | (refine ht ?_; clear ht))
      all_goals (try dsimp only at *)
      all_goals first
        | exact True.intro
        | ((try simp only [nd_s, bn_s, mm_s] at *); omega)
        | exact ⟨rfl, rfl⟩
        | (have hg := alG_nil (acc := acc) (y := y) (by omega)
           rw [← j3] at hg
           first
             | (obtain ⟨d1, d2⟩ := (ad_end hg).1 (by omega)
                rw [d1, d2]; exact ⟨rfl, rfl⟩)
             | (obtain ⟨d1, d2⟩ := (ad_end hg).2 (by omega)
                rw [d1, d2]; exact ⟨rfl, rfl⟩))
        | (simp only [cast_rfl, List.length_cons, List.length_nil]; constructor <;> omega)
        | (have hm := alG_many (acc := acc) (y := y) (by omega) (by omega)
           rw [← j3] at hm
           obtain ⟨d1, d2⟩ := ad_bad (b := b) (e := 520) (by rw [hm]) (by decide)
           rw [d1, d2]; exact ⟨rfl, rfl⟩)
        | (have h0 : acE y = 0 := by assumption
           obtain ⟨g1, g2, _⟩ := acN_ge h0
           have e1 : ∀ x, acI y x = x := fun x => if_pos h0
           first
             | (rw [e1]; constructor <;> omega)
             | (have hm := alG_ok (acc := acc) (by omega) (by omega) h0 (by omega)
                refine ⟨some (acc ++ [vA y], y.drop (tN y).toNat), ⟨?_, ?_, j3.trans hm⟩, ?_, ?_, ?_⟩
                · simp only [List.length_append, List.length_cons, List.length_nil]; omega
                · dsimp only; rw [List.length_drop]; omega
                · dsimp only; rw [List.length_drop]; omega
                · dsimp only; rw [List.length_append]; rfl
                · dsimp only; rw [e1, e1]; rfl))
        | (have h0 : ¬ acE y = 0 := by assumption
           have hm := alG_bad (acc := acc) (y := y) (by omega) (by omega) h0
           rw [← j3] at hm
           obtain ⟨d1, d2⟩ := ad_bad (b := b) (e := acE y) (by rw [hm]) h0
           rw [d1, d2]; exact ⟨rfl, rfl⟩)
        | trace_state
  · cases e
end Go.Eng
namespace Go.Eng
open Go.Proofs
set_option linter.unusedVariables false
set_option linter.unusedSimpArgs false
set_option maxRecDepth 100000
set_option maxHeartbeats 1000000
def smA (a b : AC) : Bool := sameA a.1 a.2.1 a.2.2.1 a.2.2.2.1.1 a.2.2.2.1.2.1 a.2.2.2.1.2.2.1 a.2.2.2.1.2.2.2.1 a.2.2.2.1.2.2.2.2.1 a.2.2.2.1.2.2.2.2.2.1 a.2.2.2.2.1 b.1 b.2.1 b.2.2.1 b.2.2.2.1.1 b.2.2.2.1.2.1 b.2.2.2.1.2.2.1 b.2.2.2.1.2.2.2.1 b.2.2.2.1.2.2.2.2.1 b.2.2.2.1.2.2.2.2.2.1 b.2.2.2.2.1
theorem smA_t {a b : AC} (h : smA a b = true) : a = b := by
  obtain ⟨a1, a2, a3, ⟨a4, a5, a6, a7, a8, a9, _⟩, a10, _⟩ := a
  obtain ⟨b1, b2, b3, ⟨b4, b5, b6, b7, b8, b9, _⟩, b10, _⟩ := b
  unfold smA sameA sameO at h
  simp only [Bool.and_eq_true, decide_eq_true_eq, beq_iff_eq] at h
  obtain ⟨⟨⟨⟨h1, h2⟩, h3⟩, ⟨⟨⟨⟨⟨h4, h5⟩, h7⟩, h6⟩, h8⟩, h9⟩⟩, h10⟩ := h
  rw [h1, h2, h3, h4, h5, h6, h7, h8, h9, h10]
theorem smA_f {a b : AC} (h : smA a b = false) : ¬ a = b := fun e => by
  rw [e] at h; unfold smA at h; rw [same_selfA] at h; cases h
def ir_r13_Same : IR :=
(.seq
(.keep [0, 1]
(.reg (oD 4 (.mov cF) ::
[])))
(.seq
(.seq
(.keep [0, 1]
(.reg (oM 6 0 ::
oD 7 (.len (.t 6)) ::
oM 8 1 ::
oD 9 (.len (.t 8)) ::
oD 10 (.bin .neq (.t 7) (.t 9)) ::
[])))
(.cond (.t 10)
(.seq
(.reg (oD 4 (.mov cF) ::
[]))
.ret)
.skip))
(.seq
(.seq
(.keep [0, 1]
(.reg (oD 5 (.mov (cI 0)) ::
[])))
(.block 0
(.loop
(.seq
(.seq
(.keep [0, 1, 5]
(.reg (oM 11 5 ::
oM 12 0 ::
oD 13 (.len (.t 12)) ::
oD 14 (.bin .lss (.t 11) (.t 13)) ::
[])))
(.cond (.t 14)
.skip
(.exit 0)))
(.seq
(.block 1
(.seq
(.keep [0, 1, 5]
(.regD ((oM 17 0, []) ::
(oM 18 5, [0]) ::
(oD 19 (.indexSl 10 (.t 17) (.t 18)), []) ::
(oD 20 (.load (some 10) (.t 19)), []) ::
(oM 21 1, [0, 0, 0, 0]) ::
(oM 22 5, [0, 0, 0, 0, 0]) ::
(oD 23 (.indexSl 10 (.t 21) (.t 22)), [2, 0, 0, 0]) ::
(oD 24 (.load (some 10) (.t 23)), [3, 0, 0, 0]) ::
(oD 25 (.call false (.f 135) [(.t 20), (.t 24)]), []) ::
(oD 26 (.un .not (.t 25)), []) ::
[])))
(.cond (.t 26)
(.seq
(.keep []
(.reg (oD 4 (.mov cF) ::
[])))
.ret)
.skip)))
(.keep [0, 1, 5]
(.reg (oM 15 5 ::
oD 16 (.bin .add (.t 15) (cI 1)) ::
oM 5 16 ::
[]))))))))
(.seq
(.keep []
(.reg (oD 4 (.mov cT) ::
[])))
.ret))))
def rd_r13_Same : List RD := [.tmp 4 true none]
theorem ok_r13_Same : fnOk Tryz.prog Tryz.f70 ir_r13_Same rd_r13_Same = true := by kernel_rfl
def S_r13_Same : List AV → List Obj → Option (Prop × AV)
  | [.imm (.cons (.int .i64) (.cons (.int .u64) (.cons (.int .u64) (.cons (.cons (.int .i64) (.cons (.int .i64) (.cons .bool (.cons (.int .u64) (.cons (.sl (.int .u8)) (.cons (.sl (.int .u8)) .nil)))))) (.cons (.sl (.int .u8)) .nil))))) a, .imm (.cons (.int .i64) (.cons (.int .u64) (.cons (.int .u64) (.cons (.cons (.int .i64) (.cons (.int .i64) (.cons .bool (.cons (.int .u64) (.cons (.sl (.int .u8)) (.cons (.sl (.int .u8)) .nil)))))) (.cons (.sl (.int .u8)) .nil))))) b], [] => some ((True, .bool (decide ((a : List AC) = b))))
  | _, _ => none
theorem snd_r13_Same : SoundS Tryz.prog 70 (RoF S_r13_Same).sum := by
  refine ro_fn Tryz.func70 ok_r13_Same (env_cons (s := RoF S_r12_Same) snd_r12_Same (env_nil _)) fun args objs p v e => ?_
  unfold S_r13_Same at e
  split at e
  · rename_i a b
    cases e
    refine ⟨rfl, fun hw ho hp => ?_⟩
    change List AC at a
    change List AC at b
    have hl : a.length ≤ maxLen := (hw (.imm (.cons (.int .i64) (.cons (.int .u64) (.cons (.int .u64) (.cons (.cons (.int .i64) (.cons (.int .i64) (.cons .bool (.cons (.int .u64) (.cons (.sl (.int .u8)) (.cons (.sl (.int .u8)) .nil)))))) (.cons (.sl (.int .u8)) .nil))))) a) (by simp)).2
    unfold maxLen at hl
    clear hw ho
    repeat' (intro t ht; first | (cases t <;> first | (cases ht; done) | ((try simp only [bn_s] at ht); (try simp only [nd_s] at ht))) | (refine ht ?_ ?_ <;> clear ht) | (refine ht.1 ?_ ?_ <;> clear ht) | (refine ht ?_; clear ht))
    all_goals first
      | (have hne : a ≠ b := fun h => (by assumption : ¬ (a.length : Int) = b.length) (by rw [h])
         refine ⟨?_, rfl⟩; rw [decide_eq_false hne]; done)
      | (intro r h1 h2; clear h1; refine h2 ⟨[0, 1, 5], Nat, (fun i => i ≤ a.length ∧ a.take i = b.take i), fun i => [.imm (.cons (.int .i64) (.cons (.int .u64) (.cons (.int .u64) (.cons (.cons (.int .i64) (.cons (.int .i64) (.cons .bool (.cons (.int .u64) (.cons (.sl (.int .u8)) (.cons (.sl (.int .u8)) .nil)))))) (.cons (.sl (.int .u8)) .nil))))) a, .imm (.cons (.int .i64) (.cons (.int .u64) (.cons (.int .u64) (.cons (.cons (.int .i64) (.cons (.int .i64) (.cons .bool (.cons (.int .u64) (.cons (.sl (.int .u8)) (.cons (.sl (.int .u8)) .nil)))))) (.cons (.sl (.int .u8)) .nil))))) b, .int .i64 i], fun _ => [], fun i => a.length - i, ⟨0, ⟨Nat.zero_le _, rfl⟩, rfl, rfl⟩, ?_⟩; clear h2)
    rintro i ⟨hi, he⟩
    have hl2 : a.length = b.length := by omega
    repeat' (intro t ht; first | (cases t <;> first | (cases ht; done) | ((try simp only [bn_s] at ht); (try simp only [nd_s] at ht); (try (exfalso; first | contradiction | omega)))) | (refine ht ?_ ?_ <;> clear ht) | (refine ht.1 ?_ ?_ <;> clear ht) | (refine ht ?_; clear ht))
    all_goals (try generalize (Ty.dflt (.cons (.int .i64) (.cons (.int .u64) (.cons (.int .u64) (.cons (.cons (.int .i64) (.cons (.int .i64) (.cons .bool (.cons (.int .u64) (.cons (.sl (.int .u8)) (.cons (.sl (.int .u8)) .nil)))))) (.cons (.sl (.int .u8)) .nil)))))) = od at *)
    all_goals first
      | exact True.intro
      | ((try simp only [nd_s, bn_s, mm_s] at *); omega)
      | (have e := tkAll he (by omega) hl2
         refine ⟨?_, rfl⟩; rw [decide_eq_true e]; done)
      | (have hs : smA (a.getD i od) (b.getD i od) = false := by assumption
         have hne : a ≠ b := tkNe (d := od) (i := i) (smA_f hs)
         refine ⟨?_, rfl⟩; rw [decide_eq_false hne]; done)
      | (have hs : smA (a.getD i od) (b.getD i od) = true := by assumption
         exact ⟨i + 1, ⟨by omega, tkStep he (by omega) hl2 (d := od) (smA_t hs)⟩, by (try simp only [nd_s, bn_s, mm_s] at *); omega, rfl, rfl⟩)
      | trace_state
  · cases e
theorem take_snoc {α : Type} {l : List α} {i : Nat} {d : α} (h : i < l.length) : l.take i ++ [l.getD i d] = l.take (i + 1) := by
  rw [List.take_succ_eq_append_getElem h, List.getD_eq_getElem?_getD, List.getElem?_eq_getElem h]; rfl
end Go.Eng
namespace Go.Eng
open Go.Proofs
set_option linter.unusedVariables false
set_option linter.unusedSimpArgs false
set_option maxRecDepth 100000
set_option maxHeartbeats 1000000
def ir_r01_Put_k : IR :=
(.seq
(.keep [0, 1]
(.reg (oD 4 (.nilrow (.int .u8)) ::
oD 5 (.mov cF) ::
[])))
(.seq
(.seq
(.keep [0, 1]
(.reg (oM 9 0 ::
oD 10 (.call false (.f 126) [(.t 9)]) ::
oD 11 (.un .not (.t 10)) ::
oM 12 11 ::
oF 12 13 (.mov (.t 0)) ::
oF 12 14 (.call false (.f 127) [(.t 13)]) ::
oF 12 15 (.mov (.t 1)) ::
oF 12 16 (.len (.t 15)) ::
oF 12 17 (.bin .neq (.t 14) (.t 16)) ::
oD 18 (.pick (.t 12) cT (.t 17)) ::
[])))
(.cond (.t 18)
(.seq
(.keep []
(.reg (oD 4 (.nilrow (.int .u8)) ::
oD 5 (.mov cF) ::
[])))
.ret)
.skip))
(.seq
(.keep [0, 1]
(.reg (oD 6 (.nilrow (.int .u8)) ::
[])))
(.seq
(.reg (oD 7 (.mov (cI 0)) ::
[]))
(.seq
(.seq
(.reg (oD 8 (.mov (cI 0)) ::
[]))
(.block 0
(.loop
(.seq
(.seq
(.keep [0, 1, 6, 7, 8]
(.reg (oM 19 8 ::
oM 20 0 ::
oD 21 (.len (.t 20)) ::
oD 22 (.bin .lss (.t 19) (.t 21)) ::
[])))
(.cond (.t 22)
.skip
(.exit 0)))
(.seq
(.block 1
(.seq
(.seq
(.keep [0, 1, 6, 7, 8]
(.reg (oM 25 0 ::
oM 26 8 ::
oD 27 (.indexSl 1 (.t 25) (.t 26)) ::
oL 28 27 ::
oD 29 (.bin .lss (.t 28) (cI 0)) ::
[])))
(.cond (.t 29)
(.seq
(.keep [0, 1, 6, 7, 8]
(.reg (oM 30 6 ::
oM 31 0 ::
oM 32 8 ::
oD 33 (.indexSl 1 (.t 31) (.t 32)) ::
oL 34 33 ::
oD 35 (.un .neg (.t 34)) ::
oD 36 (.appendz (.int .u8) 1 (0 : Int) (.t 30) (.t 35)) ::
oM 6 36 ::
[])))
(.exit 1))
.skip))
(.seq
(.seq
(.keep [0, 1, 6, 7, 8]
(.regD ((oM 37 1, []) ::
(oM 38 7, [0]) ::
(oD 39 (.indexSl 1 (.t 37) (.t 38)), []) ::
(oL 40 39, []) ::
(oM 41 0, [0, 0, 0, 0]) ::
(oM 42 8, [0, 0, 0, 0, 0]) ::
(oD 43 (.indexSl 1 (.t 41) (.t 42)), [2, 0, 0, 0]) ::
(oL 44 43, [3, 0, 0, 0]) ::
(oD 45 (.call false (.f 128) [(.t 40), (.t 44)]), []) ::
(oD 46 (.un .not (.t 45)), []) ::
[])))
(.cond (.t 46)
(.seq
(.keep []
(.reg (oD 4 (.nilrow (.int .u8)) ::
oD 5 (.mov cF) ::
[])))
.ret)
.skip))
(.seq
(.keep [0, 1, 6, 7, 8]
(.regD ((oM 47 6, []) ::
(oM 48 1, [0]) ::
(oM 49 7, [0, 0]) ::
(oD 50 (.indexSl 1 (.t 48) (.t 49)), [2]) ::
(oL 51 50, [3]) ::
(oM 52 0, [0, 0, 0, 0, 0]) ::
(oM 53 8, [0, 0, 0, 0, 0, 0]) ::
(oD 54 (.indexSl 1 (.t 52) (.t 53)), [2, 0, 0, 0, 0]) ::
(oL 55 54, [3, 0, 0, 0, 0]) ::
(oD 56 (.call false (.f 98) [(.t 51), (.t 55)]), [8]) ::
(oD 57 (.append (.int .u8) 1 (.t 47) (.t 56)), []) ::
(oM 6 57, []) ::
[])))
(.keep [0, 1, 6, 7, 8]
(.reg (oM 58 7 ::
oD 59 (.bin .add (.t 58) (cI 1)) ::
oM 7 59 ::
[])))))))
(.keep [0, 1, 6, 7, 8]
(.reg (oM 23 8 ::
oD 24 (.bin .add (.t 23) (cI 1)) ::
oM 8 24 ::
[]))))))))
(.seq
(.keep [6]
(.reg (oM 60 6 ::
oM 4 60 ::
oD 5 (.mov cT) ::
[])))
.ret))))))
def rd_r01_Put_k : List RD := [.tmp 4 false none, .tmp 5 false none]
theorem ok_r01_Put_k : fnOk Tryz.prog Tryz.f59 ir_r01_Put_k rd_r01_Put_k = true := by kernel_rfl
def S_r01_Put_k : List AV → List Obj → Option (Prop × AV × List Obj)
  | [.imm (.int .i64) w, .imm (.int .u64) xs], [] => some ((True, .tup [.own 0, .bool (putK w xs)], [.row false (.int .u8) (putB w xs)]))
  | _, _ => none
theorem snd_r01_Put_k : SoundS Tryz.prog 59 (RwF S_r01_Put_k).sum := by
  refine rw_fn Tryz.func59 ok_r01_Put_k (env_cons (s := RoF S_r01_Right) snd_r01_Right (env_cons (s := RoF S_r01_Count) snd_r01_Count (env_cons (s := RoF S_r01_Fits) snd_r01_Fits (env_cons (s := RwF S_r01_Num) snd_r01_Num (env_nil _))))) fun args objs p v o e => ?_
  unfold S_r01_Put_k at e
  split at e
  · rename_i w xs
    cases e
    refine ⟨rfl, fun hw ho hp => ?_⟩
    change List Int at w
    change List Int at xs
    have hx : xs.length ≤ maxLen := (hw (.imm (.int .u64) xs) (by simp)).2
    unfold maxLen at hx
    repeat' (intro t ht; first | (cases t <;> first | (cases ht; done) | ((try simp only [bn_s] at ht); (try simp only [nd_s] at ht))) | (refine ht ?_ ?_ <;> clear ht) | (refine ht.1 ?_ ?_ <;> clear ht) | (refine ht ?_; clear ht))
    all_goals first
      | exact True.intro
      | (intro r h1 h2; clear h1; refine h2 ⟨[0, 1, 6, 7, 8], Nat × Nat × List Int, (fun a => a.1 ≤ w.length ∧ (a.2.2.length : Int) = sumT absI w a.1 ∧ sumT oneI w a.1 = a.2.1 ∧ putA w xs [] = putA (w.drop a.1) (xs.drop a.2.1) a.2.2), fun a => [.imm (.int .i64) w, .imm (.int .u64) xs, .own 0, .int .i64 a.2.1, .int .i64 a.1], fun a => [.row false (.int .u8) a.2.2], fun a => w.length - a.1, ⟨(0, 0, []), ⟨Nat.zero_le _, rfl, rfl, rfl⟩, rfl, rfl⟩, ?_⟩; clear h2)
      | ((try simp only [nd_s, bn_s, mm_s] at *); omega)
      | (have hn : ¬ (rightF w = true ∧ countW w = xs.length) := fun h => by simp_all
         unfold putB putK putF; rw [if_neg hn]; exact ⟨rfl, rfl⟩)
      | trace_state
    rintro ⟨i, k, b⟩ ⟨hi, hb, hk, he⟩
    dsimp only at hi hb hk he
    have hr : rightF w = true := by assumption
    have hc : countW w = xs.length := by assumption
    have hsum : (w.map oneI).sum = xs.length := by unfold countW at hc; rwa [if_pos hr] at hc
    have hl := (rightF_t.1 hr).1
    have hs := sumT_abs hr i
    have h1 := sumT_one hr i
    repeat' (intro t ht; first | (cases t <;> first | (cases ht; done) | ((try simp only [bn_s] at ht); (try simp only [nd_s] at ht))) | (refine ht ?_ ?_ <;> clear ht) | (refine ht.1 ?_ ?_ <;> clear ht) | (refine ht ?_; clear ht))
    all_goals first
      | ((try simp only [nd_s, bn_s, mm_s] at *); omega)
      | (have hge : w.length ≤ i := by omega
         rw [List.drop_of_length_le hge] at he
         have hf : putF w xs = some b := by unfold putF; rw [if_pos ⟨hr, hc⟩, he]; rfl
         unfold putB putK; rw [hf]; exact ⟨rfl, rfl⟩)
      | skip
    all_goals have hlt : i < w.length := by omega
    all_goals have hkk := (rightF_t.1 hr).2 _ (getD_mem' (α := Int) hlt 0)
    all_goals first
      | ((try simp only [nd_s, bn_s, mm_s] at *); omega)
      | (have hn : w.getD i 0 < 0 := by assumption
         have ha := absI_neg hn
         have h0 : oneI (w.getD i 0) = 0 := if_neg (by omega)
         have hbl := bytesN_len (n := 0) (w := 0 - w.getD i 0) (by omega)
         first
           | ((try simp only [nd_s, bn_s, mm_s] at *); omega)
           | (refine ⟨(i + 1, k, b ++ bytesN 0 (0 - w.getD i 0)), ⟨hlt, ?_, ?_, ?_⟩, by dsimp only; omega, rfl, ?_⟩
              · rw [sumT_step absI hlt, ha]; simp only [List.length_append]; omega
              · rw [sumT_step oneI hlt, h0]; dsimp only; omega
              · rw [he]; exact putA_neg hlt hn
              · dsimp only; rw [← bytesN_zero]; rfl))
      | (have hn : ¬ w.getD i 0 < 0 := by assumption
         have hlt2 := sumT_lt (w := w) (i := i) hlt (by omega)
         have h2 : k < xs.length := by omega
         first
           | ((try simp only [nd_s, bn_s, mm_s] at *); omega)
           | (have h8 := fitsN_put (by assumption) hkk.2.1
              have hf : putF w xs = none := by unfold putF; rw [if_pos ⟨hr, hc⟩, he]; exact putA_none hlt hn h2 h8.1 h8.2
              unfold putB putK; rw [hf]; exact ⟨rfl, rfl⟩)
           | (have h8 := fitsN_ok (by assumption)
              have ha := absI_nn hn
              have h0 : oneI (w.getD i 0) = 1 := if_pos (by omega)
              have hbl := bytesN_len (n := xs.getD k 0) (w := w.getD i 0) (by omega)
              first
                | (simp only [cast_rfl]; (try simp only [nd_s, bn_s, mm_s] at *); omega)
                | (refine ⟨(i + 1, k + 1, b ++ bytesN (xs.getD k 0) (w.getD i 0)), ⟨hlt, ?_, ?_, ?_⟩, by dsimp only; omega, rfl, rfl⟩
                   · rw [sumT_step absI hlt, ha]; simp only [List.length_append]; omega
                   · rw [sumT_step oneI hlt, h0]; dsimp only; omega
                   · rw [he]; exact putA_some hlt hn h2 h8)))
      | trace_state
  · cases e
def ir_r08_Bytes_k : IR :=
(.seq
(.keep [0]
(.reg (oD 1 (.boxv (.t 0)) ::
oD 2 (.nilrow (.int .u8)) ::
[])))
(.seq
(.reg (oD 3 (.nilrow (.int .u8)) ::
[]))
(.seq
(.seq
(.reg (oD 5 (.fieldAddr 0 (.t 1)) ::
oL 6 5 ::
oD 7 (.bin .eql (.t 6) (cI 65535)) ::
[]))
(.cond (.t 7)
(.keep [1]
(.reg (oD 8 (.fieldAddr 3 (.t 1)) ::
oL 9 8 ::
oD 10 (.call false (.f 98) [(.t 9), (cI 4)]) ::
oM 3 10 ::
[])))
.skip))
(.seq
(.keep [1, 3]
(.regD ((oM 11 3, []) ::
(oD 12 (.fieldAddr 4 (.t 1)), [0]) ::
(oL 13 12, [1]) ::
(oD 14 (.append (.int .u8) 1 (.t 11) (.t 13)), []) ::
(oD 15 (.fieldAddr 5 (.t 1)), [0, 0, 0, 0]) ::
(oL 16 15, [1, 0, 0, 0]) ::
(oD 17 (.append (.int .u8) 1 (.t 14) (.t 16)), []) ::
(oM 3 17, []) ::
[])))
(.seq
(.keep [1, 3]
(.reg (oD 18 (.fieldAddr 1 (.t 1)) ::
oL 19 18 ::
oD 20 (.bin .mul (cI 2) (.t 19)) ::
oM 4 20 ::
[])))
(.seq
(.seq
(.reg (oD 21 (.fieldAddr 2 (.t 1)) ::
oL 22 21 ::
[]))
(.cond (.t 22)
(.keep [1, 3, 4]
(.reg (oM 23 4 ::
oD 24 (.bin .add (.t 23) (cI 1)) ::
oM 4 24 ::
[])))
.skip))
(.seq
(.keep [1, 3, 4]
(.reg (oD 25 (.fieldAddr 0 (.t 1)) ::
oL 26 25 ::
oD 27 (.conv .u64 (.t 26)) ::
oD 28 (.call false (.f 98) [(.t 27), (cI 2)]) ::
oM 29 4 ::
oD 30 (.conv .u8 (.t 29)) ::
oM 31 3 ::
oD 32 (.len (.t 31)) ::
oD 33 (.conv .u8 (.t 32)) ::
oD 34 (.sliceAll (.int .u8) 2 [(0, 1, (.t 30)), (1, 1, (.t 33))]) ::
oD 35 (.append (.int .u8) 1 (.t 28) (.t 34)) ::
oM 36 3 ::
oD 37 (.append (.int .u8) 1 (.t 35) (.t 36)) ::
oM 2 37 ::
[])))
.ret)))))))
def rd_r08_Bytes_k : List RD := [.tmp 2 false none]
theorem ok_r08_Bytes_k : fnOk Tryz.prog Tryz.f210 ir_r08_Bytes_k rd_r08_Bytes_k = true := by kernel_rfl
def S_r08_Bytes_k : List AV → List Obj → Option (Prop × AV × List Obj)
  | [.agg [.int .i64 c, .int .i64 f, .bool h, .int .u64 x, .imm (.int .u8) v, .imm (.int .u8) m]], [] => some ((0 ≤ f ∧ f ≤ 127 ∧ 0 ≤ c ∧ c ≤ 65535 ∧ v.length ≤ 100 ∧ m.length ≤ 100, .own 0, [.row false (.int .u8) (refB c f h x v m)]))
  | _, _ => none
theorem snd_r08_Bytes_k : SoundS Tryz.prog 210 (RwF S_r08_Bytes_k).sum := by
  refine rw_fn Tryz.func210 ok_r08_Bytes_k (env_cons (s := RwF S_r01_Num) snd_r01_Num (env_nil _)) fun args objs p v o e => ?_
  unfold S_r08_Bytes_k at e
  split at e
  · rename_i c f h x v m
    cases e
    refine ⟨rfl, fun hw ho hp => ?_⟩
    change List Int at v
    change List Int at m
    have hx := bytesN_len (n := x) (w := 4) (by decide)
    have hc2 := bytesN_len (n := c) (w := 2) (by decide)
    cases h <;> by_cases hc : c = 65535
    all_goals repeat' (intro t ht; first | (cases t <;> first | (cases ht; done) | ((try simp only [bn_s] at ht); (try simp only [nd_s] at ht))) | (refine ht ?_ ?_ <;> clear ht) | (refine ht.1 ?_ ?_ <;> clear ht) | (refine ht ?_; clear ht))
    all_goals first
      | exact True.intro
      | exact (by decide)
      | contradiction
      | ((try simp only [nd_s, bn_s, mm_s] at *); omega)
      | (simp only [List.length_append, List.length_cons, List.length_nil, cast_rfl]; (try simp only [nd_s, bn_s, mm_s] at *); omega)
      | (refine ⟨rfl, ?_⟩; simp only [cast_rfl]; unfold refB bodyR; simp_all; done)
      | trace_state
  · cases e
def ir_r12_row : IR :=
(.seq
(.keep [0]
(.reg (oD 2 (.mov (.c (.imm (.int .i64) []))) ::
oD 3 (.mov cF) ::
[])))
(.seq
(.seq
(.reg (oM 4 0 ::
[]))
(.block 0
(.seq
(.reg (oD 6 (.bin .eql (.t 4) (cI 0)) ::
oM 5 6 ::
[]))
(.cond (.t 5)
(.seq
(.reg (oD 7 (.sliceAll (.int .i64) 3 [(0, 1, (cI 4)), (1, 1, (cI 2)), (2, 1, (cI (-6)))]) ::
oM 2 7 ::
oD 3 (.mov cT) ::
[]))
.ret)
(.seq
(.seq
(.reg (oD 9 (.bin .eql (.t 4) (cI 22)) ::
oM 8 9 ::
[]))
(.cond (.t 8)
.skip
(.seq
(.keep [4]
(.reg (oD 10 (.bin .eql (.t 4) (cI 21)) ::
oM 8 10 ::
[])))
(.cond (.t 8)
.skip
(.reg (oD 11 (.bin .eql (.t 4) (cI 65535)) ::
oM 8 11 ::
[]))))))
(.cond (.t 8)
(.seq
(.keep []
(.reg (oD 12 (.sliceAll (.int .i64) 1 [(0, 1, (cI 4))]) ::
oM 2 12 ::
oD 3 (.mov cT) ::
[])))
.ret)
(.seq
(.seq
(.keep [4]
(.reg (oD 14 (.bin .eql (.t 4) (cI 15)) ::
oM 13 14 ::
[])))
(.cond (.t 13)
.skip
(.reg (oD 15 (.bin .eql (.t 4) (cI 23)) ::
oM 13 15 ::
[]))))
(.cond (.t 13)
(.seq
(.reg (oD 16 (.sliceAll (.int .i64) 2 [(0, 1, (cI 1)), (1, 1, (cI (-3)))]) ::
oM 2 16 ::
oD 3 (.mov cT) ::
[]))
.ret)
(.seq
(.seq
(.reg (oD 18 (.bin .eql (.t 4) (cI 11)) ::
oM 17 18 ::
[]))
(.cond (.t 17)
.skip
(.seq
(.keep [4]
(.reg (oD 19 (.bin .eql (.t 4) (cI 12)) ::
oM 17 19 ::
[])))
(.cond (.t 17)
.skip
(.seq
(.reg (oD 20 (.bin .eql (.t 4) (cI 16)) ::
oM 17 20 ::
[]))
(.cond (.t 17)
.skip
(.seq
(.reg (oD 21 (.bin .eql (.t 4) (cI 18)) ::
oM 17 21 ::
[]))
(.cond (.t 17)
.skip
(.seq
(.keep [4]
(.reg (oD 22 (.bin .eql (.t 4) (cI 24)) ::
oM 17 22 ::
[])))
(.cond (.t 17)
.skip
(.reg (oD 23 (.bin .eql (.t 4) (cI 27)) ::
oM 17 23 ::
[]))))))))))))
(.cond (.t 17)
(.seq
(.keep []
(.reg (oD 24 (.sliceAll (.int .i64) 1 [(0, 1, (cI (-4)))]) ::
oM 2 24 ::
oD 3 (.mov cT) ::
[])))
.ret)
(.seq
(.seq
(.keep [4]
(.reg (oD 26 (.bin .eql (.t 4) (cI 17)) ::
oM 25 26 ::
[])))
(.cond (.t 25)
.skip
(.seq
(.reg (oD 27 (.bin .eql (.t 4) (cI 19)) ::
oM 25 27 ::
[]))
(.cond (.t 25)
.skip
(.seq
(.reg (oD 28 (.bin .eql (.t 4) (cI 20)) ::
oM 25 28 ::
[]))
(.cond (.t 25)
.skip
(.keep [4]
(.reg (oD 29 (.bin .eql (.t 4) (cI 26)) ::
oM 25 29 ::
[])))))))))
(.cond (.t 25)
(.seq
(.keep []
(.reg (oD 30 (.sliceAll (.int .i64) 2 [(0, 1, (cI 2)), (1, 1, (cI (-2)))]) ::
oM 2 30 ::
oD 3 (.mov cT) ::
[])))
.ret)
.skip))))))))))))
(.seq
(.keep []
(.reg (oD 2 (.mov (.c (.imm (.int .i64) []))) ::
oD 3 (.mov cF) ::
[])))
.ret)))
def rd_r12_row : List RD := [.tmp 2 true (some (.int .i64)), .tmp 3 true none]
theorem ok_r12_row : fnOk Tryz.prog Tryz.f198 ir_r12_row rd_r12_row = true := by kernel_rfl
def S_r12_row : List AV → List Obj → Option (Prop × AV)
  | [.int .i64 q], [] => some ((True, .tup [.imm (.int .i64) (rowT q), .bool (rowK q)]))
  | _, _ => none
theorem snd_r12_row : SoundS Tryz.prog 198 (RoF S_r12_row).sum := by
  refine ro_fn Tryz.func198 ok_r12_row (env_nil _) fun args objs p v e => ?_
  unfold S_r12_row at e
  split at e
  · rename_i q
    cases e
    refine ⟨rfl, fun hw ho hp => ?_⟩
    clear hw ho
    repeat' (intro t ht; first | (cases t <;> first | (cases ht; done) | ((try simp only [bn_s] at ht); (try simp only [nd_s] at ht); (try (exfalso; first | contradiction | omega)))) | (refine ht ?_ ?_ <;> clear ht) | (refine ht.1 ?_ ?_ <;> clear ht) | (refine ht ?_; clear ht))
    all_goals first
      | exact True.intro
      | (have h := rowT_no (t := q) (by omega)
         rw [h.1, h.2]; exact ⟨rfl, rfl⟩)
      | (subst_vars; exact ⟨rfl, rfl⟩)
      | (have h : q = 0 ∨ (q = 22 ∨ q = 21 ∨ q = 65535) ∨ (q = 15 ∨ q = 23) ∨ (q = 17 ∨ q = 19 ∨ q = 26 ∨ q = 20) ∨ (q = 11 ∨ q = 12 ∨ q = 16 ∨ q = 18 ∨ q = 24 ∨ q = 27) := by omega
         rcases h with rfl | (rfl | rfl | rfl) | (rfl | rfl) | (rfl | rfl | rfl | rfl) | (rfl | rfl | rfl | rfl | rfl | rfl) <;> first | (exfalso; omega) | exact ⟨rfl, rfl⟩)
      | trace_state
  · cases e
def ir_r12_asked : IR :=
(.seq
(.keep [0, 1]
(.reg (oD 4 (.mov (cI 0)) ::
[])))
(.seq
(.seq
(.reg (oM 5 0 ::
[]))
(.block 0
(.seq
(.reg (oD 7 (.bin .eql (.t 5) (cI 0)) ::
oM 6 7 ::
[]))
(.cond (.t 6)
(.seq
(.reg (oM 8 1 ::
oD 9 (.bin .eql (.t 8) (.c (.int .u64 0))) ::
[]))
(.cond (.t 9)
(.seq
(.keep []
(.reg (oD 4 (.mov (cI 517)) ::
[])))
.ret)
.skip))
(.seq
(.reg (oD 11 (.bin .eql (.t 5) (cI 22)) ::
oM 10 11 ::
[]))
(.cond (.t 10)
(.seq
(.keep [1]
(.reg (oM 12 1 ::
oD 13 (.bin .gtr (.t 12) (.c (.int .u64 4294967040))) ::
[])))
(.cond (.t 13)
(.seq
(.reg (oD 4 (.mov (cI 522)) ::
[]))
.ret)
.skip))
(.seq
(.keep [1, 5]
(.reg (oD 15 (.bin .eql (.t 5) (cI 17)) ::
oM 14 15 ::
[])))
(.cond (.t 14)
(.seq
(.keep [1]
(.reg (oM 16 1 ::
oD 17 (.bin .neq (.t 16) (.c (.int .u64 33024))) ::
oM 18 17 ::
oT 18 19 (.mov (.t 1)) ::
oT 18 20 (.bin .neq (.t 19) (.c (.int .u64 34984))) ::
oD 21 (.pick (.t 18) (.t 20) cF) ::
[])))
(.cond (.t 21)
(.seq
(.keep []
(.reg (oD 4 (.mov (cI 518)) ::
[])))
.ret)
.skip))
(.seq
(.reg (oD 23 (.bin .eql (.t 5) (cI 19)) ::
oM 22 23 ::
[]))
(.cond (.t 22)
(.seq
(.keep [1]
(.reg (oM 24 1 ::
oD 25 (.bin .neq (.t 24) (.c (.int .u64 34887))) ::
oM 26 25 ::
oT 26 27 (.mov (.t 1)) ::
oT 26 28 (.bin .neq (.t 27) (.c (.int .u64 34888))) ::
oD 29 (.pick (.t 26) (.t 28) cF) ::
[])))
(.cond (.t 29)
(.seq
(.keep []
(.reg (oD 4 (.mov (cI 518)) ::
[])))
.ret)
.skip))
(.seq
(.reg (oD 31 (.bin .eql (.t 5) (cI 26)) ::
oM 30 31 ::
[]))
(.cond (.t 30)
(.seq
(.keep [1]
(.reg (oM 32 1 ::
oD 33 (.bin .neq (.t 32) (.c (.int .u64 35047))) ::
[])))
(.cond (.t 33)
(.seq
(.reg (oD 4 (.mov (cI 518)) ::
[]))
.ret)
.skip))
.skip))))))))))))
(.seq
(.keep []
(.reg (oD 4 (.mov (cI 0)) ::
[])))
.ret)))
def rd_r12_asked : List RD := [.tmp 4 true none]
theorem ok_r12_asked : fnOk Tryz.prog Tryz.f199 ir_r12_asked rd_r12_asked = true := by kernel_rfl
def S_r12_asked : List AV → List Obj → Option (Prop × AV)
  | [.int .i64 q, .int .u64 n], [] => some ((True, .int .i64 (askF q n)))
  | _, _ => none
theorem snd_r12_asked : SoundS Tryz.prog 199 (RoF S_r12_asked).sum := by
  refine ro_fn Tryz.func199 ok_r12_asked (env_nil _) fun args objs p v e => ?_
  unfold S_r12_asked at e
  split at e
  · rename_i q n
    cases e
    refine ⟨rfl, fun hw ho hp => ?_⟩
    clear hw ho
    repeat' (intro t ht; first | (cases t <;> first | (cases ht; done) | ((try simp only [bn_s] at ht); (try simp only [nd_s] at ht); (try (exfalso; first | contradiction | omega)))) | (refine ht ?_ ?_ <;> clear ht) | (refine ht.1 ?_ ?_ <;> clear ht) | (refine ht ?_; clear ht))
    all_goals first
      | exact True.intro
      | (refine ⟨congrArg (AV.int .i64) ?_, rfl⟩; unfold askF; repeat' split
         all_goals first | rfl | omega)
      | trace_state
  · cases e
def ir_r12_nums : IR :=
(.seq
(.keep [0, 1]
(.reg (oD 2 (.boxv (.t 0)) ::
oD 4 (.mov (.c (.imm (.int .u64) []))) ::
[])))
(.seq
(.keep [1, 2]
(.reg (oD 6 (.fieldAddr 1 (.t 2)) ::
oL 7 6 ::
oD 8 (.fieldAddr 2 (.t 2)) ::
oL 9 8 ::
oD 10 (.sliceAll (.int .u64) 2 [(0, 1, (.t 7)), (1, 1, (.t 9))]) ::
oM 5 10 ::
[])))
(.seq
(.keep [1, 5]
(.reg (oM 11 5 ::
oM 12 1 ::
oD 13 (.call false (.f 127) [(.t 12)]) ::
oD 14 (.slice 1 (.t 11) none (some (.t 13)) none) ::
oM 4 14 ::
[])))
.ret)))
def rd_r12_nums : List RD := [.tmp 4 true (some (.int .u64))]
theorem ok_r12_nums : fnOk Tryz.prog Tryz.f243 ir_r12_nums rd_r12_nums = true := by kernel_rfl
def S_r12_nums : List AV → List Obj → Option (Prop × AV)
  | [.agg [.int .i64 q, .int .u64 a, .int .u64 b, .int .i64 c, .int .i64 f, .bool h, .int .u64 x, .imm (.int .u8) v, .imm (.int .u8) m, .imm (.int .u8) d], .imm (.int .i64) w], [] => some ((0 ≤ countW w ∧ countW w ≤ 2, .imm (.int .u64) ([a, b].take (countW w).toNat)))
  | _, _ => none
theorem snd_r12_nums : SoundS Tryz.prog 243 (RoF S_r12_nums).sum := by
  refine ro_fn Tryz.func243 ok_r12_nums (env_cons (s := RoF S_r01_Count) snd_r01_Count (env_nil _)) fun args objs p v e => ?_
  unfold S_r12_nums at e
  split at e
  · rename_i q a b c f h x v m d w
    cases e
    refine ⟨rfl, fun hw ho hp => ?_⟩
    change List Int at v
    change List Int at m
    change List Int at d
    change List Int at w
    clear hw ho
    repeat' (intro t ht; first | (cases t <;> first | (cases ht; done) | ((try simp only [bn_s] at ht); (try simp only [nd_s] at ht); (try (exfalso; first | contradiction | omega)))) | (refine ht ?_ ?_ <;> clear ht) | (refine ht.1 ?_ ?_ <;> clear ht) | (refine ht ?_; clear ht))
    all_goals first
      | exact True.intro
      | exact hp
      | ((try simp only [nd_s, bn_s, mm_s] at *); omega)
      | exact ⟨rfl, rfl⟩
      | trace_state
  · cases e
def ir_r04_May : IR :=
(.seq
(.keep [0]
(.reg (oD 1 (.boxv (.t 0)) ::
oD 2 (.mov cF) ::
[])))
(.seq
(.keep [1]
(.reg (oD 3 (.fieldAddr 0 (.t 1)) ::
oL 4 3 ::
oD 5 (.bin .geq (.t 4) (cI 4)) ::
oM 6 5 ::
oT 6 7 (.fieldAddr 0 (.t 1)) ::
oT 6 8 (.load none (.t 7)) ::
oT 6 9 (.bin .leq (.t 8) (cI 60000)) ::
oD 10 (.pick (.t 6) (.t 9) cF) ::
oM 11 10 ::
oT 11 12 (.fieldAddr 1 (.t 1)) ::
oT 11 13 (.load none (.t 12)) ::
oT 11 14 (.bin .geq (.t 13) (cI 1)) ::
oD 15 (.pick (.t 11) (.t 14) cF) ::
oM 16 15 ::
oT 16 17 (.fieldAddr 1 (.t 1)) ::
oT 16 18 (.load none (.t 17)) ::
oT 16 19 (.bin .leq (.t 18) (cI 64)) ::
oD 20 (.pick (.t 16) (.t 19) cF) ::
oM 21 20 ::
oT 21 22 (.fieldAddr 3 (.t 1)) ::
oT 21 23 (.load none (.t 22)) ::
oT 21 24 (.bin .neq (.t 23) (cI 0)) ::
oD 25 (.pick (.t 21) (.t 24) cF) ::
oM 26 25 ::
oT 26 27 (.fieldAddr 4 (.t 1)) ::
oT 26 28 (.load none (.t 27)) ::
oT 26 29 (.bin .neq (.t 28) (cI 0)) ::
oD 30 (.pick (.t 26) (.t 29) cF) ::
oM 2 30 ::
[])))
.ret))
def rd_r04_May : List RD := [.tmp 2 true none]
theorem ok_r04_May : fnOk Tryz.prog Tryz.f235 ir_r04_May rd_r04_May = true := by kernel_rfl
def S_r04_May : List AV → List Obj → Option (Prop × AV)
  | [.agg [.int .i64 least, .int .i64 step, .bool pad, .int .i64 bad, .int .i64 odd]], [] => some ((4 ≤ least ∧ least ≤ 60000 ∧ 1 ≤ step ∧ step ≤ 64 ∧ bad ≠ 0 ∧ odd ≠ 0, .bool true))
  | _, _ => none
theorem snd_r04_May : SoundS Tryz.prog 235 (RoF S_r04_May).sum := by
  refine ro_fn Tryz.func235 ok_r04_May (env_nil _) fun args objs p v e => ?_
  unfold S_r04_May at e
  split at e
  · rename_i least step pad bad odd
    cases e
    refine ⟨rfl, fun hw ho hp => ?_⟩
    clear hw ho
    obtain ⟨h1, h2, h3, h4, h5, h6⟩ := hp
    repeat' (intro t ht; first | (cases t <;> first | (cases ht; done) | ((try simp only [bn_s] at ht); (try simp only [nd_s] at ht); (try (exfalso; first | contradiction | omega)))) | (refine ht ?_ ?_ <;> clear ht) | (refine ht.1 ?_ ?_ <;> clear ht) | (refine ht ?_; clear ht))
    all_goals first
      | exact True.intro
      | exact ⟨rfl, rfl⟩
      | (exfalso; omega)
      | (refine ⟨congrArg AV.bool ?_, rfl⟩; simp; omega)
      | trace_state
  · cases e
def ir_r04_One : IR :=
(.seq
(.keep [0, 1]
(.reg (oD 2 (.boxv (.t 0)) ::
oD 4 (.box [.int .i64 0, .imm (.int .u8) []]) ::
oD 5 (.mov (cI 0)) ::
oD 6 (.mov (cI 0)) ::
[])))
(.seq
(.seq
(.reg (oD 10 (.load (some 5) (.t 2)) ::
oD 11 (.call false (.f 235) [(.t 10)]) ::
oD 12 (.un .not (.t 11)) ::
[]))
(.cond (.t 12)
(.seq
(.keep [4]
(.reg (oD 13 (.build [.int .i64 0, .imm (.int .u8) []] []) ::
oN (.store 2 (.t 4) (.t 13)) ::
oD 5 (.mov (cI 0)) ::
oD 6 (.mov (cI 10001)) ::
[])))
.ret)
.skip))
(.seq
(.seq
(.keep [1, 2, 4]
(.reg (oM 14 1 ::
oD 15 (.len (.t 14)) ::
oD 16 (.bin .lss (.t 15) (cI 4)) ::
[])))
(.cond (.t 16)
(.seq
(.keep [2, 4]
(.regD ((oD 17 (.build [.int .i64 0, .imm (.int .u8) []] []), []) ::
(oD 18 (.fieldAddr 3 (.t 2)), [0]) ::
(oL 19 18, [1]) ::
(oN (.store 2 (.t 4) (.t 17)), [0, 0]) ::
(oD 5 (.mov (cI 0)), [1, 0]) ::
(oM 6 19, []) ::
[])))
.ret)
.skip))
(.seq
(.keep [1, 2, 4]
(.reg (oM 20 1 ::
oD 21 (.slice 1 (.t 20) (some (cI 2)) (some (cI 4)) none) ::
oD 22 (.call false (.f 68) [(.t 21)]) ::
oD 23 (.conv .i64 (.t 22)) ::
oM 7 23 ::
[])))
(.seq
(.seq
(.keep [1, 2, 4, 7]
(.reg (oM 24 7 ::
oD 25 (.fieldAddr 0 (.t 2)) ::
oL 26 25 ::
oD 27 (.bin .lss (.t 24) (.t 26)) ::
oM 28 27 ::
oF 28 29 (.fieldAddr 2 (.t 2)) ::
oF 28 30 (.load none (.t 29)) ::
oF 28 31 (.un .not (.t 30)) ::
oF 28 32 (.mov (.t 31)) ::
oT 32 33 (.mov (.t 7)) ::
oT 32 34 (.fieldAddr 1 (.t 2)) ::
oT 32 35 (.load none (.t 34)) ::
oT 32 36 (.bin .rem (.t 33) (.t 35)) ::
oT 32 37 (.bin .neq (.t 36) (cI 0)) ::
oF 28 38 (.pick (.t 32) (.t 37) cF) ::
oD 39 (.pick (.t 28) cT (.t 38)) ::
[])))
(.cond (.t 39)
(.seq
(.keep [2, 4]
(.regD ((oD 40 (.build [.int .i64 0, .imm (.int .u8) []] []), []) ::
(oD 41 (.fieldAddr 3 (.t 2)), [0]) ::
(oL 42 41, [1]) ::
(oN (.store 2 (.t 4) (.t 40)), [0, 0]) ::
(oD 5 (.mov (cI 0)), [1, 0]) ::
(oM 6 42, []) ::
[])))
.ret)
.skip))
(.seq
(.keep [1, 2, 4, 7]
(.reg (oM 43 7 ::
oM 8 43 ::
[])))
(.seq
(.seq
(.reg (oD 44 (.fieldAddr 2 (.t 2)) ::
oL 45 44 ::
[]))
(.cond (.t 45)
(.keep [1, 2, 4, 7]
(.reg (oM 46 7 ::
oM 47 7 ::
oD 48 (.fieldAddr 1 (.t 2)) ::
oL 49 48 ::
oD 50 (.call false (.f 236) [(.t 47), (.t 49)]) ::
oD 51 (.bin .add (.t 46) (.t 50)) ::
oM 8 51 ::
[])))
.skip))
(.seq
(.seq
(.keep [1, 2, 4, 7, 8]
(.reg (oM 52 8 ::
oM 53 1 ::
oD 54 (.len (.t 53)) ::
oD 55 (.bin .gtr (.t 52) (.t 54)) ::
[])))
(.cond (.t 55)
(.seq
(.keep [2, 4]
(.regD ((oD 56 (.build [.int .i64 0, .imm (.int .u8) []] []), []) ::
(oD 57 (.fieldAddr 3 (.t 2)), [0]) ::
(oL 58 57, [1]) ::
(oN (.store 2 (.t 4) (.t 56)), [0, 0]) ::
(oD 5 (.mov (cI 0)), [1, 0]) ::
(oM 6 58, []) ::
[])))
.ret)
.skip))
(.seq
(.seq
(.reg (oM 59 7 ::
oM 9 59 ::
[]))
(.block 0
(.loop
(.seq
(.seq
(.keep [1, 2, 4, 7, 8, 9]
(.reg (oM 60 9 ::
oM 61 8 ::
oD 62 (.bin .lss (.t 60) (.t 61)) ::
[])))
(.cond (.t 62)
.skip
(.exit 0)))
(.seq
(.block 1
(.seq
(.keep [1, 2, 4, 7, 8, 9]
(.reg (oM 65 1 ::
oM 66 9 ::
oD 67 (.indexSl 1 (.t 65) (.t 66)) ::
oL 68 67 ::
oD 69 (.bin .neq (.t 68) (.c (.int .u8 0))) ::
[])))
(.cond (.t 69)
(.seq
(.keep [2, 4]
(.regD ((oD 70 (.build [.int .i64 0, .imm (.int .u8) []] []), []) ::
(oD 71 (.fieldAddr 4 (.t 2)), [0]) ::
(oL 72 71, [1]) ::
(oN (.store 2 (.t 4) (.t 70)), [0, 0]) ::
(oD 5 (.mov (cI 0)), [1, 0]) ::
(oM 6 72, []) ::
[])))
.ret)
.skip)))
(.keep [1, 2, 4, 7, 8, 9]
(.reg (oM 63 9 ::
oD 64 (.bin .add (.t 63) (cI 1)) ::
oM 9 64 ::
[]))))))))
(.seq
(.keep [1, 4, 7, 8]
(.regD ((oM 73 1, []) ::
(oD 74 (.slice 1 (.t 73) none (some (cI 2)) none), []) ::
(oD 75 (.call false (.f 68) [(.t 74)]), []) ::
(oD 76 (.conv .i64 (.t 75)), []) ::
(oD 77 (.slice0 (.int .u8)), [0, 0, 0, 0]) ::
(oM 78 1, [0, 0, 0, 0, 0]) ::
(oM 79 7, [0, 0, 0, 0, 0, 0]) ::
(oD 80 (.slice 1 (.t 78) (some (cI 4)) (some (.t 79)) none), [2, 0, 0, 0, 0]) ::
(oD 81 (.append (.int .u8) 1 (.t 77) (.t 80)), [4]) ::
(oD 82 (.buildAll 2 [(0, 1, (.t 76)), (1, 1, (.t 81))]), []) ::
(oM 83 8, [0, 0, 0, 0, 0, 0, 0, 0, 0, 0]) ::
(oN (.store 2 (.t 4) (.t 82)), [0]) ::
(oM 5 83, []) ::
(oD 6 (.mov (cI 0)), []) ::
[])))
.ret))))))))))
def rd_r04_One : List RD := [.cell 4 (some 2) true [], .tmp 5 true none, .tmp 6 true none]
theorem ok_r04_One : fnOk Tryz.prog Tryz.f196 ir_r04_One rd_r04_One = true := by kernel_rfl
def S_r04_One : List AV → List Obj → Option (Prop × AV)
  | [.agg [.int .i64 least, .int .i64 step, .bool pad, .int .i64 bad, .int .i64 odd], .imm (.int .u8) b], [] => some ((pad = false ∧ (4 ≤ least ∧ least ≤ 60000 ∧ 1 ≤ step ∧ step ≤ 64 ∧ bad ≠ 0 ∧ odd ≠ 0) ∧ b.length ≤ 140737488355328, .tup [.agg [.int .i64 (tlI b least step bad (tT b)), .imm (.int .u8) (tlR b least step bad)], .int .i64 (tlI b least step bad (tN b)), .int .i64 (tlE b least step bad)]))
  | _, _ => none
theorem snd_r04_One : SoundS Tryz.prog 196 (RoF S_r04_One).sum := by
  refine ro_fn Tryz.func196 ok_r04_One (env_cons (s := RoF S_r04_May) snd_r04_May (env_cons (s := RoF S_r01_Value) snd_r01_Value (env_nil _))) fun args objs p v e => ?_
  unfold S_r04_One at e
  split at e
  · rename_i least step pad bad odd b
    cases e
    refine ⟨rfl, fun hw ho hp => ?_⟩
    change List Int at b
    have hb : ∀ x ∈ (b : List Int), (0 : Int) ≤ x ∧ x ≤ 255 := fun x hx => (hw _ (by simp : AV.imm (.int .u8) b ∈ _)).1 x hx
    clear hw ho
    obtain ⟨rfl, hs, hl⟩ := hp
    have hs' := hs
    obtain ⟨h1, h2, h3, h4', h5, h6⟩ := hs'
    have hT : 0 ≤ tT b ∧ tT b ≤ 65535 := num2_le (a := 0) hb
    have hN : 0 ≤ tN b ∧ tN b ≤ 65535 := num2_le (a := 2) hb
    have v1 : numL ((b.take (4 : Int).toNat).drop (2 : Int).toNat) = tN b := by unfold tN; rw [List.drop_take]; rfl
    have v2 : numL ((b.take (2 : Int).toNat).drop (0 : Int).toNat) = tT b := rfl
    have v3 : numL (b.take (2 : Int).toNat) = tT b := rfl
    have hl2 : (b.take 2).length ≤ 8 := by rw [List.length_take]; omega
    have hl4 : ((b.take 4).drop 2).length ≤ 8 := by rw [List.length_drop, List.length_take]; omega
    have hm := tmod_bd (a := tN b) (s := step) hN.1 h3
    repeat' (intro t ht; first | (cases t <;> first | (cases ht; done) | ((try simp only [bn_s] at ht); (try simp only [nd_s] at ht); (try (exfalso; first | contradiction | omega)))) | (refine ht ?_ ?_ <;> clear ht) | (refine ht.1 ?_ ?_ <;> clear ht) | (refine ht ?_; clear ht))
    all_goals (try simp only [v1, v2, v3] at *)
    all_goals first
      | exact True.intro
      | exact hs
      | exact hl2
      | exact hl4
      | omega
      | ((try simp only [nd_s, bn_s, mm_s] at *); omega)
      | (have hE : tlE b least step bad = bad := by
           unfold tlE
           by_cases h4 : b.length < 4
           · exact if_pos h4
           · rw [if_neg h4]
             by_cases hq : tN b < least ∨ ¬ (tN b).tmod step = 0
             · exact if_pos hq
             · rw [if_neg hq]; exact if_pos (by omega)
         unfold tlI tlR; simp only [hE, if_neg h5]; first | done | exact ⟨rfl, by first | rfl | exact True.intro⟩ | exact ⟨trivial, trivial⟩)
      | (intro r h1 h2; refine h1 ⟨1, ?_⟩; clear h1 h2)
      | trace_state
    all_goals repeat' (intro t ht; first | (cases t <;> first | (cases ht; done) | ((try simp only [bn_s] at ht); (try simp only [nd_s] at ht); (try (exfalso; first | contradiction | omega)))) | (refine ht ?_ ?_ <;> clear ht) | (refine ht.1 ?_ ?_ <;> clear ht) | (refine ht ?_; clear ht))
    all_goals (try simp only [v1, v2, v3] at *)
    all_goals first
      | exact True.intro
      | omega
      | exact hl2
      | exact hl4
      | (have hT' : 0 ≤ numL (List.take (Int.toNat 2) b) ∧ numL (List.take (Int.toNat 2) b) ≤ 65535 := hT; (try simp only [nd_s, bn_s, mm_s] at *); omega)
      | (simp only [List.length_drop, List.length_take, List.length_nil]; constructor <;> omega)
      | ((try simp only [nd_s, bn_s, mm_s] at *); omega)
      | (have hE : tlE b least step bad = 0 := by unfold tlE; rw [if_neg (by omega), if_neg (by omega)]; exact if_neg (by omega)
         unfold tlI tlR; simp only [hE, if_true]; first | done | exact ⟨rfl, by first | rfl | exact True.intro⟩ | exact ⟨trivial, trivial⟩)
      | trace_state
  · cases e
theorem rightA_ref {q a b c f : Int} {h : Bool} {x : Int} {v m d : List Int} (hx : 0 ≤ x) (hv : ∀ x ∈ v, 0 ≤ x ∧ x ≤ 255) (hm : ∀ x ∈ m, 0 ≤ x ∧ x ≤ 255) : rightA (rightO c f h x v m) q a b c f h x v m d = rightA (refR c f h x v m) q a b c f h x v m d := by rw [right_law hx hv hm]
end Go.Eng
namespace Go.Eng
open Go.Proofs
set_option linter.unusedVariables false
set_option linter.unusedSimpArgs false
set_option maxRecDepth 100000
set_option maxHeartbeats 1000000
def ir_r07_Settable : IR :=
(.seq
(.keep [0]
(.reg (oD 2 (.mov cF) ::
[])))
(.seq
(.keep [0]
(.reg (oM 6 0 ::
oD 7 (.call false (.f 250) [(.t 6)]) ::
oM 5 7 ::
oD 8 (.extract (.t 5) 0) ::
oD 9 (.extract (.t 5) 1) ::
oD 3 (.box [.str [], .int .i64 0, .int .i64 0, .kb false, .int .i64 0, .imm (.int .u64) []]) ::
oN (.store 6 (.t 3) (.t 8)) ::
oM 4 9 ::
[])))
(.seq
(.keep [0, 4]
(.reg (oM 10 4 ::
oM 11 10 ::
oT 11 12 (.mov (.t 0)) ::
oT 11 13 (.bin .gtr (.t 12) (cI 2)) ::
oD 14 (.pick (.t 11) (.t 13) cF) ::
oM 15 14 ::
oT 15 16 (.mov (.t 0)) ::
oT 15 17 (.bin .neq (.t 16) (cI 39)) ::
oD 18 (.pick (.t 15) (.t 17) cF) ::
oM 2 18 ::
[])))
.ret)))
def rd_r07_Settable : List RD := [.tmp 2 true none]
theorem ok_r07_Settable : fnOk Tryz.prog Tryz.f237 ir_r07_Settable rd_r07_Settable = true := by kernel_rfl
def S_r07_Settable : List AV → List Obj → Option (Prop × AV)
  | [.int .i64 n], [] => some ((True, .bool (settF n)))
  | _, _ => none
theorem snd_r07_Settable : SoundS Tryz.prog 237 (RoF S_r07_Settable).sum := by
  refine ro_fn Tryz.func237 ok_r07_Settable (env_cons (s := RoF S_r07_Of) snd_r07_Of (env_nil _)) fun args objs p v e => ?_
  unfold S_r07_Settable at e
  split at e
  · rename_i n
    cases e
    refine ⟨rfl, fun hw ho hp => ?_⟩
    repeat' (intro t ht; first | (cases t <;> first | (cases ht; done) | ((try simp only [bn_s] at ht); (try simp only [nd_s] at ht))) | (refine ht ?_ ?_ <;> clear ht) | (refine ht.1 ?_ ?_ <;> clear ht) | (refine ht ?_; clear ht))
    all_goals try (try simp only [nd_s, bn_s, mm_s] at *)
    all_goals first
      | exact True.intro
      | (refine ⟨?_, trivial⟩; unfold settF; congr 1; rw [Bool.eq_iff_iff]; first | (have h := fIs_t.1 (by assumption); simp at *; omega) | (have h := fIs_f.1 (by assumption); simp at *; omega) | (simp at *; omega))
      | trace_state
  · cases e
end Go.Eng
