/- Parts of the proof: the last, for this claim. No condition. -/
import Derived.Test.YtbenhegdnaoalaaGreatDoorProg
import Derived.Test.YtbenhegdnaoalaaGreatDoorWA10
import Derived.KernelRfl
import Derived.Test.YtbenhegdnaoalaaGreatDoorWA23
namespace Go.Eng
open Go.Proofs
set_option linter.unusedVariables false
set_option linter.unusedSimpArgs false
set_option maxRecDepth 100000
set_option maxHeartbeats 1000000
theorem bd_bad {b : List Int} {e : Int} (h : (bG b).2.1 = e) (h0 : ¬ e = 0) : bdL b = [] ∧ bdE b = e := by
  have : bdE b = e := by unfold bdE; rw [h, if_pos h0]
  exact ⟨by unfold bdL; rw [this, if_neg h0], this⟩
theorem bd_end {b : List Int} {acc : List BK} (h1 : (bG b).1 = acc) (h : (bG b).2.1 = 0) : (65528 < b.length → bdL b = [] ∧ bdE b = 1549) ∧ (¬ 65528 < b.length → bdL b = acc ∧ bdE b = 0) := by
  have e : bdE b = if 65528 < b.length then 1549 else 0 := by unfold bdE; rw [h, if_neg (not_not_intro rfl)]
  constructor
  · intro hl
    rw [if_pos hl] at e
    exact ⟨by unfold bdL; rw [e]; rfl, e⟩
  · intro hl
    rw [if_neg hl] at e
    exact ⟨by unfold bdL; rw [e, if_pos rfl]; exact h1, e⟩
end Go.Eng
namespace Go.Eng
open Go.Proofs
set_option linter.unusedVariables false
set_option linter.unusedSimpArgs false
set_option maxRecDepth 100000
set_option maxHeartbeats 1000000
def S16 : List Int := [0, 16, 0, 1, 0, 0, 0, 0, 0, 0, 0, 0, 0, 0, 0, 0]
def S16x : BK := (1, 0, 0, [], ())
theorem ad0 : adL [] = [] ∧ adE [] = 0 := (ad_end (alG_nil rfl)).2 (by decide)
theorem s16k : btK S16 = true ∧ btN S16 = 16 ∧ btA S16 = [] ∧ numL ((S16.drop 2).take 2) = 1 ∧ numL ((S16.drop 4).take 4) = 0 ∧ numL ((S16.drop 8).take 4) = 0 ∧ btK (S16.take 15) = false ∧ rgL [] = true ∧ putK w5 (bkN S16x) = true ∧ putB w5 (bkN S16x) = S16 ∧ chR [S16x] 5 = 0 ∧ chR [] 5 = -1 := by decide +kernel
theorem s16d : bdE S16 = 0 ∧ bdL S16 = [S16x] ∧ bdE (S16.take 15) = 1549 ∧ bkL [S16x] = S16 ∧ bkE [S16x] = 0 ∧ chR [S16x] 5 = 0 ∧ chR [] 5 = -1 ∧ okB [S16x] := by
  obtain ⟨k1, k2, k3, k4, k5, k6, k7, k8, k9, ka, kb, kc⟩ := s16k
  have e1 : btE S16 = 0 := by unfold btE; rw [if_pos k1, k3]; exact ad0.2
  have e2 : btV S16 = S16x := by unfold btV; rw [if_pos k1, k3, k4, k5, k6, ad0.1]; rfl
  have hl : ¬ S16.length = 0 := by decide
  have hb := bG_ok hl e1
  rw [k2, e2] at hb
  have hn : bG (S16.drop (Int.toNat 16)) = ([], 0, 0) := bG_nil rfl
  rw [hn] at hb
  obtain ⟨g1, g2⟩ := (bd_end (b := S16) (acc := [S16x]) (by rw [hb]) (by rw [hb])).2 (by decide)
  have e3 : btE (S16.take 15) = 1549 := if_neg (by rw [k7]; decide)
  have hb2 := bG_bad (y := S16.take 15) (by decide) (by rw [e3]; decide)
  rw [e3] at hb2
  obtain ⟨_, g4⟩ := bd_bad (b := S16.take 15) (e := 1549) (by rw [hb2]) (by decide)
  have hbf : bbF S16x = some S16 := by
    unfold bbF
    have h1 : rgL S16x.2.2.2.1 = true := k8
    rw [if_pos ⟨h1, k9⟩, ka]; rfl
  have hba : bbA [S16x] [] = some S16 := by
    show (match bbF S16x with | some y => bbA [] ([] ++ y) | none => none) = _
    rw [hbf]; rfl
  obtain ⟨g5, g6⟩ := (bk_some hba).1 (by decide)
  exact ⟨g2, g1, g4, g5, g6, kb, kc, ⟨fun o ho => by rw [List.mem_singleton.1 ho]; exact ⟨fun a ha => (by cases ha), by decide⟩, by decide⟩⟩
def pre (l : List BK) (i : Nat) : Int := ((l.take i).map (·.1)).sum
structure smW (l : List BK) : Prop where
  w : ∀ o ∈ l, 0 ≤ o.1 ∧ o.1 ≤ 11
  n : l.length ≤ 12
theorem pre_0 (l : List BK) : pre l 0 = 0 := by unfold pre; simp
theorem pre_cons (x : BK) (l : List BK) (i : Nat) : pre (x :: l) (i + 1) = x.1 + pre l i := by unfold pre; simp
theorem pre_nn {l : List BK} (h : ∀ o ∈ l, 0 ≤ o.1) (i : Nat) : 0 ≤ pre l i := by
  induction l generalizing i with
  | nil => unfold pre; simp
  | cons x r ih =>
    cases i with
    | zero => rw [pre_0]; exact Int.le_refl _
    | succ i =>
      rw [pre_cons]
      have := ih (fun o ho => h o (List.mem_cons_of_mem _ ho)) i
      have := h x (List.mem_cons_self ..)
      omega
theorem pre_mono {l : List BK} (h : ∀ o ∈ l, 0 ≤ o.1) : ∀ {i j : Nat}, i ≤ j → pre l i ≤ pre l j := by
  induction l with
  | nil => intro i j _; unfold pre; simp
  | cons x r ih =>
    intro i j hij
    cases i with
    | zero => rw [pre_0]; exact pre_nn h j
    | succ i =>
      cases j with
      | zero => omega
      | succ j =>
        rw [pre_cons, pre_cons]
        have := ih (fun o ho => h o (List.mem_cons_of_mem _ ho)) (i := i) (j := j) (by omega)
        omega
theorem chT_pre : ∀ (l : List BK) (s : Int), (∀ o ∈ l, 0 ≤ o.1) → 0 ≤ s → s + pre l l.length ≤ 1000000 → chT l s = s + pre l l.length
  | [], s, _, _, _ => by unfold chT pre; simp
  | x :: r, s, h, h0, hb => by
    rw [List.length_cons, pre_cons] at hb ⊢
    have hx := h x (List.mem_cons_self ..)
    have hr := pre_nn (fun o ho => h o (List.mem_cons_of_mem _ ho)) (l := r) r.length
    have hw : IntKind.u64.wrap (s + x.1) = s + x.1 := wrap_id (k := .u64) ⟨by rw [min_u64]; omega, by rw [max_u64]; omega⟩
    show chT r (IntKind.u64.wrap (s + x.1)) = _
    rw [hw, chT_pre r (s + x.1) (fun o ho => h o (List.mem_cons_of_mem _ ho)) (by omega) (by omega)]; omega
theorem chI_pre {m : Int} : ∀ (l : List BK) (s : Int) (k : Nat), (∀ o ∈ l, 0 ≤ o.1) → 0 ≤ s → s + pre l l.length ≤ 1000000 → s ≤ m → m < s + pre l l.length → ∃ t, t < l.length ∧ (chI m l s k).1 = ((k + t : Nat) : Int) ∧ s + pre l t ≤ m ∧ m < s + pre l (t + 1)
  | [], s, k, _, _, _, h1, h2 => by unfold pre at h2; simp at h2; omega
  | x :: r, s, k, h, h0, hb, h1, h2 => by
    rw [List.length_cons, pre_cons] at hb h2
    have hx := h x (List.mem_cons_self ..)
    have hr := pre_nn (fun o ho => h o (List.mem_cons_of_mem _ ho)) (l := r) r.length
    have hw : IntKind.u64.wrap (s + x.1) = s + x.1 := wrap_id (k := .u64) ⟨by rw [min_u64]; omega, by rw [max_u64]; omega⟩
    by_cases hc : m < s + x.1
    · refine ⟨0, by simp, ?_, by rw [pre_0]; omega, by rw [pre_cons, pre_0]; omega⟩
      unfold chI; rw [hw, if_pos hc]; rfl
    · obtain ⟨t, t1, t2, t3, t4⟩ := chI_pre (m := m) r (s + x.1) (k + 1) (fun o ho => h o (List.mem_cons_of_mem _ ho)) (by omega) (by omega) (by omega) (by omega)
      refine ⟨t + 1, by simpa using t1, ?_, by rw [pre_cons]; omega, by rw [pre_cons]; omega⟩
      unfold chI; rw [hw, if_neg hc, t2]; congr 1; omega
theorem pre_le {l : List BK} (h : smW l) : pre l l.length ≤ 132 := by
  have : ∀ r : List BK, (∀ o ∈ r, 0 ≤ o.1 ∧ o.1 ≤ 11) → pre r r.length ≤ 11 * r.length := by
    intro r
    induction r with
    | nil => intro _; unfold pre; simp
    | cons x r ih =>
      intro h
      rw [List.length_cons, pre_cons]
      have := ih fun o ho => h o (List.mem_cons_of_mem _ ho)
      have := h x (List.mem_cons_self ..)
      omega
  have := this l h.w
  have := h.n
  omega
theorem chR_iff {l : List BK} (h : smW l) (h0 : 0 < pre l l.length) (n : Nat) : ∃ t, t < l.length ∧ chR l n = (t : Nat) ∧ ∀ i, i < l.length → (i = t ↔ pre l i ≤ (n : Int) % pre l l.length ∧ (n : Int) % pre l l.length < pre l (i + 1)) := by
  have hw : ∀ o ∈ l, 0 ≤ o.1 := fun o ho => (h.w o ho).1
  have hle := pre_le h
  have hT : chT l 0 = pre l l.length := by rw [chT_pre l 0 hw (Int.le_refl _) (by omega)]; omega
  have hm : (n : Int).tmod (pre l l.length) = (n : Int) % pre l l.length := Int.tmod_eq_emod_of_nonneg (by omega)
  have m1 := Int.emod_nonneg (n : Int) (show pre l l.length ≠ 0 by omega)
  have m2 := Int.emod_lt_of_pos (n : Int) h0
  obtain ⟨t, t1, t2, t3, t4⟩ := chI_pre (m := (n : Int) % pre l l.length) l 0 0 hw (Int.le_refl _) (by omega) m1 (by omega)
  refine ⟨t, t1, ?_, fun i hi => ⟨fun e => ?_, fun e => ?_⟩⟩
  · unfold chR; rw [hT, if_neg (by omega), hm, t2]; simp
  · subst e; omega
  · rcases Nat.lt_trichotomy i t with h1 | h1 | h1
    · have := pre_mono hw (show i + 1 ≤ t by omega); omega
    · exact h1
    · have := pre_mono hw (show t + 1 ≤ i by omega); omega
def cnt (l : List BK) (f : Nat) : Nat → Nat → Nat
  | 0, _ => 0
  | k + 1, i => cnt l f k i + (if chR l ((f + k : Nat) : Int) = (i : Nat) then 1 else 0)
def sm (g : Nat → Nat) (f : Nat) : Nat → Nat
  | 0 => 0
  | k + 1 => sm g f k + g (f + k)
theorem sm_front (g : Nat → Nat) : ∀ (f k : Nat), sm g f (k + 1) = g f + sm g (f + 1) k
  | f, 0 => by simp [sm]
  | f, k + 1 => by
    have h1 : sm g f (k + 1 + 1) = sm g f (k + 1) + g (f + (k + 1)) := rfl
    have h2 : sm g (f + 1) (k + 1) = sm g (f + 1) k + g (f + 1 + k) := rfl
    rw [h1, h2, sm_front g f k, show f + (k + 1) = f + 1 + k by omega]; omega
theorem sm_turn {g : Nat → Nat} {S : Nat} (hg : ∀ n, g (n + S) = g n) : ∀ f, sm g f S = sm g 0 S
  | 0 => rfl
  | f + 1 => by
    have h1 := sm_front g f S
    have h2 : sm g f (S + 1) = sm g f S + g (f + S) := rfl
    rw [hg f] at h2
    rw [← sm_turn hg f]; omega
theorem sm_int {g : Nat → Nat} {a b S : Nat} (hab : a ≤ b) (hg : ∀ n, n < S → g n = if a ≤ n ∧ n < b then 1 else 0) : ∀ k, k ≤ S → sm g 0 k + min k a = min k b
  | 0, _ => by simp [sm]
  | k + 1, hk => by
    have ih := sm_int hab hg k (by omega)
    have h1 : sm g 0 (k + 1) = sm g 0 k + g (0 + k) := rfl
    rw [h1, Nat.zero_add, hg k (by omega)]
    split <;> omega
theorem cnt_sm (l : List BK) (f i : Nat) : ∀ k, cnt l f k i = sm (fun n => if chR l (n : Int) = (i : Nat) then 1 else 0) f k
  | 0 => rfl
  | k + 1 => by unfold cnt sm; rw [cnt_sm l f i k]
theorem cnt_all {l : List BK} (h : smW l) (h0 : 0 < pre l l.length) (f i : Nat) (hi : i < l.length) : (cnt l f (pre l l.length).toNat i : Int) = pre l (i + 1) - pre l i := by
  have hw : ∀ o ∈ l, 0 ≤ o.1 := fun o ho => (h.w o ho).1
  obtain ⟨S, hS⟩ := Int.eq_ofNat_of_zero_le (show 0 ≤ pre l l.length by omega)
  obtain ⟨a, ha⟩ := Int.eq_ofNat_of_zero_le (pre_nn hw i)
  obtain ⟨b, hb⟩ := Int.eq_ofNat_of_zero_le (pre_nn hw (i + 1))
  have m1 := pre_mono hw (show i ≤ i + 1 by omega)
  have m2 := pre_mono hw (show i + 1 ≤ l.length by omega)
  have key : ∀ n : Nat, (if chR l (n : Int) = (i : Nat) then 1 else 0) = if a ≤ n % S ∧ n % S < b then 1 else 0 := fun n => by
    obtain ⟨t, t1, t2, t3⟩ := chR_iff h h0 n
    have := t3 i hi
    rw [hS, ha, hb] at this
    rw [t2]
    by_cases e : i = t
    · have q := this.1 e
      rw [if_pos (by rw [e]), if_pos (by omega)]
    · have q : ¬ (a ≤ n % S ∧ n % S < b) := fun hq => e (this.2 (by omega))
      rw [if_neg (by omega), if_neg q]
  rw [hS, Int.toNat_natCast, cnt_sm, sm_turn (S := S) (fun n => by rw [key, key, Nat.add_mod_right])]
  have hi2 := sm_int (g := fun n => if chR l (n : Int) = (i : Nat) then 1 else 0) (a := a) (b := b) (S := S) (by omega) (fun n hn => by rw [key, Nat.mod_eq_of_lt hn]) S (Nat.le_refl _)
  rw [ha, hb]; omega
theorem pre_step {l : List BK} {i : Nat} {d : BK} (h : i < l.length) : pre l (i + 1) - pre l i = (l.getD i d).1 := by
  unfold pre
  rw [List.take_succ_eq_append_getElem h, List.map_append, List.sum_append, List.getD_eq_getElem?_getD, List.getElem?_eq_getElem h]
  simp; omega
theorem cnts_le (l : List BK) (f i : Nat) : ∀ k, cnt l f k i ≤ k
  | 0 => Nat.le_refl _
  | k + 1 => by have := cnts_le l f i k; unfold cnt; split <;> omega
end Go.Eng
namespace Go.Eng
open Go.Proofs
set_option linter.unusedVariables false
set_option linter.unusedSimpArgs false
set_option maxRecDepth 100000
set_option maxHeartbeats 1000000
def ir_l16_sure : IR :=
(.seq
(.keep []
(.reg (oD 0 (.mov cF) ::
[])))
(.seq
(.reg (oD 8 (.sliceAll (.int .u8) 16 [(0, 1, (.c (.int .u8 0))), (1, 1, (.c (.int .u8 16))), (2, 1, (.c (.int .u8 0))), (3, 1, (.c (.int .u8 1))), (4, 1, (.c (.int .u8 0))), (5, 1, (.c (.int .u8 0))), (6, 1, (.c (.int .u8 0))), (7, 1, (.c (.int .u8 0))), (8, 1, (.c (.int .u8 0))), (9, 1, (.c (.int .u8 0))), (10, 1, (.c (.int .u8 0))), (11, 1, (.c (.int .u8 0))), (12, 1, (.c (.int .u8 0))), (13, 1, (.c (.int .u8 0))), (14, 1, (.c (.int .u8 0))), (15, 1, (.c (.int .u8 0)))]) ::
oM 1 8 ::
[]))
(.seq
(.keep [1]
(.reg (oM 10 1 ::
oD 11 (.call false (.f 25) [(.t 10)]) ::
oM 9 11 ::
oD 12 (.extract (.t 9) 0) ::
oD 13 (.extract (.t 9) 1) ::
oM 2 12 ::
oM 3 13 ::
[])))
(.seq
(.keep [1, 2, 3]
(.reg (oM 15 1 ::
oD 16 (.slice 1 (.t 15) none (some (cI 15)) none) ::
oD 17 (.call false (.f 25) [(.t 16)]) ::
oM 14 17 ::
oD 18 (.extract (.t 14) 0) ::
oD 19 (.extract (.t 14) 1) ::
oM 4 18 ::
oM 5 19 ::
[])))
(.seq
(.keep [1, 2, 3, 5]
(.reg (oM 21 2 ::
oD 22 (.call false (.f 36) [(.t 21)]) ::
oM 20 22 ::
oD 23 (.extract (.t 20) 0) ::
oD 24 (.extract (.t 20) 1) ::
oM 6 23 ::
oM 7 24 ::
[])))
(.seq
(.keep [1, 2, 3, 5, 6, 7]
(.reg (oM 25 3 ::
oD 26 (.bin .eql (.t 25) (cI 0)) ::
oM 27 26 ::
oT 27 28 (.mov (.t 2)) ::
oT 27 29 (.len (.t 28)) ::
oT 27 30 (.bin .eql (.t 29) (cI 1)) ::
oD 31 (.pick (.t 27) (.t 30) cF) ::
oM 32 31 ::
oT 32 33 (.mov (.t 2)) ::
oT 32 34 (.indexSl 4 (.t 33) (cI 0)) ::
oT 32 35 (.fieldAddr 0 (.t 34)) ::
oT 32 36 (.load none (.t 35)) ::
oT 32 37 (.bin .eql (.t 36) (.c (.int .u64 1))) ::
oD 38 (.pick (.t 32) (.t 37) cF) ::
oM 39 38 ::
oT 39 40 (.mov (.t 5)) ::
oT 39 41 (.bin .eql (.t 40) (cI 1549)) ::
oD 42 (.pick (.t 39) (.t 41) cF) ::
oM 43 42 ::
oT 43 44 (.mov (.t 7)) ::
oT 43 45 (.bin .eql (.t 44) (cI 0)) ::
oD 46 (.pick (.t 43) (.t 45) cF) ::
oM 47 46 ::
oT 47 48 (.mov (.t 6)) ::
oT 47 49 (.mov (.t 1)) ::
oT 47 50 (.call false (.f 20) [(.t 48), (.t 49)]) ::
oD 51 (.pick (.t 47) (.t 50) cF) ::
oM 52 51 ::
oT 52 53 (.mov (.t 2)) ::
oT 52 54 (.call false (.f 33) [(.t 53), (.c (.int .u64 5))]) ::
oT 52 55 (.bin .eql (.t 54) (cI 0)) ::
oD 56 (.pick (.t 52) (.t 55) cF) ::
oM 57 56 ::
oT 57 58 (.call false (.f 33) [(.c (.imm (.cons (.int .u64) (.cons (.int .u64) (.cons (.int .u64) (.cons (.sl (.cons (.int .i64) (.cons (.int .u64) (.cons (.int .u64) (.cons (.cons (.int .i64) (.cons (.int .i64) (.cons .bool (.cons (.int .u64) (.cons (.sl (.int .u8)) (.cons (.sl (.int .u8)) .nil)))))) (.cons (.sl (.int .u8)) .nil)))))) .nil)))) [])), (.c (.int .u64 5))]) ::
oT 57 59 (.bin .eql (.t 58) (cI (-1))) ::
oD 60 (.pick (.t 57) (.t 59) cF) ::
oM 0 60 ::
[])))
.ret))))))
def rd_l16_sure : List RD := [.tmp 0 true none]
theorem ok_l16_sure : fnOk Tryz.prog Tryz.f24 ir_l16_sure rd_l16_sure = true := by kernel_rfl
def S_l16_sure : List AV → List Obj → Option (Prop × AV)
  | [], [] => some ((True, .bool true))
  | _, _ => none
theorem snd_l16_sure : SoundS Tryz.prog 24 (RoF S_l16_sure).sum := by
  refine ro_fn Tryz.func24 ok_l16_sure (env_cons (s := RoF S_bucket_Decode) snd_bucket_Decode (env_cons (s := RoF S_bucket_Encode) snd_bucket_Encode (env_cons (s := RoF S_r01_Bytes) snd_r01_Bytes (env_cons (s := RoF S_bucket_Choose) snd_bucket_Choose (env_nil _))))) fun args objs p v e => ?_
  unfold S_l16_sure at e
  split at e
  · cases e
    refine ⟨rfl, fun hw ho hp => ?_⟩
    clear hw ho
    obtain ⟨e1, e2, e3, e4, e5, e6, e7, e8⟩ := s16d
    unfold S16 at e1 e2 e3 e4
    repeat' (intro t ht; first | (cases t <;> first | (cases ht; done) | ((try simp only [bn_s] at ht); (try simp only [nd_s] at ht))) | (refine ht ?_ ?_ <;> clear ht) | (refine ht.1 ?_ ?_ <;> clear ht) | (refine ht ?_; clear ht))
    all_goals (try simp only [e1, e2, e3, e4, e5, e6, e7, show Int.toNat 15 = 15 from rfl] at *)
    all_goals first
      | exact True.intro
      | exact e8
      | exact (by decide)
      | contradiction
      | exact ⟨rfl, by first | rfl | exact True.intro⟩
      | skip
  · cases e
end Go.Eng
namespace Go.Eng
open Go.Proofs
set_option linter.unusedVariables false
set_option linter.unusedSimpArgs false
set_option maxRecDepth 100000
set_option maxHeartbeats 1000000
def mkB (w : Int) : BK := (w.tmod 12, 0, 0, [], ())
theorem mk_step {W : List Int} {i : Nat} (h : i < W.length) : (W.take i).map mkB ++ [mkB (W.getD i 0)] = (W.take (i + 1)).map mkB := by
  rw [List.take_succ_eq_append_getElem h, List.map_append, List.getD_eq_getElem?_getD, List.getElem?_eq_getElem h]; rfl
theorem mk_pre {W : List Int} {i : Nat} (h : i < W.length) : pre (W.map mkB) (i + 1) = pre (W.map mkB) i + (W.getD i 0).tmod 12 := by
  have h1 := pre_step (l := W.map mkB) (i := i) (d := mkB 0) (by simpa using h)
  have h2 : (W.map mkB).getD i (mkB 0) = mkB (W.getD i 0) := by
    simp only [List.getD_eq_getElem?_getD, List.getElem?_map, List.getElem?_eq_getElem h]; rfl
  rw [h2] at h1
  have h3 : (mkB (W.getD i 0)).1 = (W.getD i 0).tmod 12 := rfl
  omega
theorem mk_sm {W : List Int} (hb : ∀ x ∈ W, 0 ≤ x ∧ x ≤ 255) (hl : W.length ≤ 12) : smW (W.map mkB) := ⟨fun o ho => by
  obtain ⟨w, h1, rfl⟩ := List.mem_map.1 ho
  have := hb w h1
  show 0 ≤ w.tmod 12 ∧ w.tmod 12 ≤ 11
  rw [Int.tmod_eq_emod_of_nonneg this.1]; omega, by rw [List.length_map]; exact hl⟩
theorem set_get {ch : List Int} {t i : Nat} (ht : t < ch.length) : (ch.set t (ch.getD t 0 + 1)).getD i 0 = ch.getD i 0 + (if t = i then 1 else 0) := by
  simp only [List.getD_eq_getElem?_getD, List.getElem?_set]
  by_cases h : t = i
  · subst h; simp [ht]
  · simp [h]
theorem rep_get (n i : Nat) : (List.replicate n (0 : Int)).getD i 0 = 0 := by
  simp only [List.getD_eq_getElem?_getD, List.getElem?_replicate]; split <;> rfl
theorem ch_zero {l : List BK} (h : smW l) (h0 : pre l l.length = 0) (n : Int) : chR l n = -1 := by
  have hT : chT l 0 = pre l l.length := by rw [chT_pre l 0 (fun o ho => (h.w o ho).1) (Int.le_refl _) (by omega)]; omega
  unfold chR; rw [hT, if_pos h0]
def ir_l16_BucketShares : IR :=
(.seq
(.keep [0, 1]
(.reg (oD 4 (.mov cF) ::
[])))
(.seq
(.seq
(.reg (oM 13 0 ::
oD 14 (.len (.t 13)) ::
oD 15 (.bin .gtr (.t 14) (cI 12)) ::
[]))
(.cond (.t 15)
(.seq
(.reg (oD 16 (.call false (.f 24) []) ::
oM 4 16 ::
[]))
.ret)
.skip))
(.seq
(.keep [0, 1]
(.reg (oD 5 (.nilrow (.cons (.int .u64) (.cons (.int .u64) (.cons (.int .u64) (.cons (.sl (.cons (.int .i64) (.cons (.int .u64) (.cons (.int .u64) (.cons (.cons (.int .i64) (.cons (.int .i64) (.cons .bool (.cons (.int .u64) (.cons (.sl (.int .u8)) (.cons (.sl (.int .u8)) .nil)))))) (.cons (.sl (.int .u8)) .nil)))))) .nil))))) ::
[])))
(.seq
(.reg (oD 6 (.mov (.c (.int .u64 0))) ::
[]))
(.seq
(.seq
(.reg (oD 7 (.mov (cI 0)) ::
[]))
(.block 0
(.loop
(.seq
(.seq
(.keep [0, 1, 5, 6, 7]
(.reg (oM 17 7 ::
oM 18 0 ::
oD 19 (.len (.t 18)) ::
oD 20 (.bin .lss (.t 17) (.t 19)) ::
[])))
(.cond (.t 20)
.skip
(.exit 0)))
(.seq
(.block 1
(.seq
(.keep [0, 1, 5, 6, 7]
(.reg (oM 23 0 ::
oM 24 7 ::
oD 25 (.indexSl 1 (.t 23) (.t 24)) ::
oL 26 25 ::
oD 27 (.conv .u64 (.t 26)) ::
oD 28 (.bin .rem (.t 27) (.c (.int .u64 12))) ::
oM 8 28 ::
[])))
(.seq
(.keep [0, 1, 5, 6, 7, 8]
(.reg (oM 29 5 ::
oM 30 8 ::
oD 31 (.build [.int .u64 0, .int .u64 0, .int .u64 0, .imm (.cons (.int .i64) (.cons (.int .u64) (.cons (.int .u64) (.cons (.cons (.int .i64) (.cons (.int .i64) (.cons .bool (.cons (.int .u64) (.cons (.sl (.int .u8)) (.cons (.sl (.int .u8)) .nil)))))) (.cons (.sl (.int .u8)) .nil))))) []] [(0, 1, (.t 30))]) ::
oD 32 (.sliceAll (.cons (.int .u64) (.cons (.int .u64) (.cons (.int .u64) (.cons (.sl (.cons (.int .i64) (.cons (.int .u64) (.cons (.int .u64) (.cons (.cons (.int .i64) (.cons (.int .i64) (.cons .bool (.cons (.int .u64) (.cons (.sl (.int .u8)) (.cons (.sl (.int .u8)) .nil)))))) (.cons (.sl (.int .u8)) .nil)))))) .nil)))) 1 [(0, 4, (.t 31))]) ::
oD 33 (.append (.cons (.int .u64) (.cons (.int .u64) (.cons (.int .u64) (.cons (.sl (.cons (.int .i64) (.cons (.int .u64) (.cons (.int .u64) (.cons (.cons (.int .i64) (.cons (.int .i64) (.cons .bool (.cons (.int .u64) (.cons (.sl (.int .u8)) (.cons (.sl (.int .u8)) .nil)))))) (.cons (.sl (.int .u8)) .nil)))))) .nil)))) 48 (.t 29) (.t 32)) ::
oM 5 33 ::
[])))
(.reg (oM 34 6 ::
oM 35 8 ::
oD 36 (.bin .add (.t 34) (.t 35)) ::
oM 6 36 ::
[])))))
(.keep [0, 1, 5, 6, 7]
(.reg (oM 21 7 ::
oD 22 (.bin .add (.t 21) (cI 1)) ::
oM 7 22 ::
[]))))))))
(.seq
(.keep [1, 5, 6]
(.reg (oM 37 5 ::
oD 38 (.len (.t 37)) ::
oD 39 (.mkrow (.int .u64) 8 (0 : Int) (.t 38) (.t 38)) ::
oM 9 39 ::
[])))
(.seq
(.seq
(.reg (oD 10 (.mov (.c (.int .u64 0))) ::
[]))
(.block 2
(.loop
(.seq
(.seq
(.keep [1, 5, 6, 9, 10]
(.reg (oM 40 10 ::
oM 41 6 ::
oD 42 (.bin .lss (.t 40) (.t 41)) ::
[])))
(.cond (.t 42)
.skip
(.exit 2)))
(.seq
(.block 3
(.seq
(.keep [1, 5, 6, 9, 10]
(.reg (oM 45 5 ::
oM 46 1 ::
oD 47 (.conv .u64 (.t 46)) ::
oM 48 10 ::
oD 49 (.bin .add (.t 47) (.t 48)) ::
oD 50 (.call false (.f 33) [(.t 45), (.t 49)]) ::
oM 11 50 ::
[])))
(.seq
(.seq
(.keep [1, 5, 6, 9, 10, 11]
(.reg (oM 51 11 ::
oD 52 (.bin .lss (.t 51) (cI 0)) ::
oM 53 52 ::
oF 53 54 (.mov (.t 11)) ::
oF 53 55 (.mov (.t 5)) ::
oF 53 56 (.len (.t 55)) ::
oF 53 57 (.bin .geq (.t 54) (.t 56)) ::
oD 58 (.pick (.t 53) cT (.t 57)) ::
[])))
(.cond (.t 58)
(.seq
(.keep []
(.reg (oD 4 (.mov cF) ::
[])))
.ret)
.skip))
(.keep [1, 5, 6, 9, 10, 11]
(.reg (oM 59 9 ::
oM 60 11 ::
oM 61 9 ::
oM 62 11 ::
oD 63 (.indexSl 1 (.t 61) (.t 62)) ::
oL 64 63 ::
oD 65 (.bin .add (.t 64) (.c (.int .u64 1))) ::
oD 66 (.indexSl 1 (.t 59) (.t 60)) ::
oN (.store 1 (.t 66) (.t 65)) ::
[]))))))
(.keep [1, 5, 6, 9, 10]
(.reg (oM 43 10 ::
oD 44 (.bin .add (.t 43) (.c (.int .u64 1))) ::
oM 10 44 ::
[]))))))))
(.seq
(.seq
(.keep [1, 5, 6, 9]
(.reg (oD 12 (.mov (cI 0)) ::
[])))
(.block 4
(.loop
(.seq
(.seq
(.keep [1, 5, 6, 9, 12]
(.reg (oM 67 12 ::
oM 68 5 ::
oD 69 (.len (.t 68)) ::
oD 70 (.bin .lss (.t 67) (.t 69)) ::
[])))
(.cond (.t 70)
.skip
(.exit 4)))
(.seq
(.block 5
(.seq
(.keep [1, 5, 6, 9, 12]
(.regD ((oM 73 9, []) ::
(oM 74 12, [0]) ::
(oD 75 (.indexSl 1 (.t 73) (.t 74)), []) ::
(oL 76 75, []) ::
(oM 77 5, [0, 0, 0, 0]) ::
(oM 78 12, [0, 0, 0, 0, 0]) ::
(oD 79 (.indexSl 4 (.t 77) (.t 78)), [2, 0, 0, 0]) ::
(oD 80 (.fieldAddr 0 (.t 79)), [3, 0, 0, 0]) ::
(oL 81 80, [4, 0, 0, 0]) ::
(oD 82 (.bin .neq (.t 76) (.t 81)), []) ::
[])))
(.cond (.t 82)
(.seq
(.keep []
(.reg (oD 4 (.mov cF) ::
[])))
.ret)
.skip)))
(.keep [1, 5, 6, 9, 12]
(.reg (oM 71 12 ::
oD 72 (.bin .add (.t 71) (cI 1)) ::
oM 12 72 ::
[]))))))))
(.seq
(.keep [1, 5, 6]
(.reg (oM 83 6 ::
oD 84 (.bin .gtr (.t 83) (.c (.int .u64 0))) ::
oM 85 84 ::
oF 85 86 (.mov (.t 5)) ::
oF 85 87 (.mov (.t 1)) ::
oF 85 88 (.conv .u64 (.t 87)) ::
oF 85 89 (.call false (.f 33) [(.t 86), (.t 88)]) ::
oF 85 90 (.bin .eql (.t 89) (cI (-1))) ::
oD 91 (.pick (.t 85) cT (.t 90)) ::
oM 92 91 ::
oT 92 93 (.call false (.f 24) []) ::
oD 94 (.pick (.t 92) (.t 93) cF) ::
oM 4 94 ::
[])))
.ret)))))))))
def rd_l16_BucketShares : List RD := [.tmp 4 true none]
theorem ok_l16_BucketShares : fnOk Tryz.prog Tryz.f8 ir_l16_BucketShares rd_l16_BucketShares = true := by kernel_rfl
def S_l16_BucketShares : List AV → List Obj → Option (Prop × AV)
  | [.imm (.int .u8) wl, .int .u32 f], [] => some ((True, .bool true))
  | _, _ => none
theorem snd_l16_BucketShares : SoundS Tryz.prog 8 (RoF S_l16_BucketShares).sum := by
  refine ro_fn Tryz.func8 ok_l16_BucketShares (env_cons (s := RoF S_l16_sure) snd_l16_sure (env_cons (s := RoF S_bucket_Choose) snd_bucket_Choose (env_nil _))) fun args objs p v e => ?_
  unfold S_l16_BucketShares at e
  split at e
  · rename_i wl f
    cases e
    refine ⟨rfl, fun hw ho hp => ?_⟩
    change List Int at wl
    have hb : ∀ x ∈ (wl : List Int), (0 : Int) ≤ x ∧ x ≤ 255 := fun x hx => (hw (.imm (.int .u8) wl) (by simp)).1 x hx
    have hf : 0 ≤ f ∧ f ≤ 4294967295 := by have h := hw (.int .u32 f) (by simp); unfold AV.wf1 at h; exact h
    clear hw ho
    by_cases h12 : wl.length ≤ 12
    · have hsm := mk_sm hb h12
      have hw0 : ∀ o ∈ wl.map mkB, 0 ≤ o.1 := fun o ho => (hsm.w o ho).1
      have hle := pre_le hsm
      have hlen : (wl.map mkB).length = wl.length := List.length_map ..
      rw [hlen] at hle
      obtain ⟨f, rfl⟩ := Int.eq_ofNat_of_zero_le hf.1
      repeat' (intro t ht; first | (cases t <;> first | (cases ht; done) | ((try simp only [bn_s] at ht); (try simp only [nd_s] at ht); (try (exfalso; first | contradiction | omega)))) | (refine ht ?_ ?_ <;> clear ht) | (refine ht.1 ?_ ?_ <;> clear ht) | (refine ht ?_; clear ht))
      all_goals first
        | exact True.intro
        | (intro r h1 h2; clear h1; refine h2 ⟨[0, 1, 5, 6, 7], Nat, (fun i => i ≤ wl.length), fun i => [.imm (.int .u8) wl, .int .u32 f, .own 0, .int .u64 (pre (wl.map mkB) i), .int .i64 i], fun i => [.row false (.cons (.int .u64) (.cons (.int .u64) (.cons (.int .u64) (.cons (.sl (.cons (.int .i64) (.cons (.int .u64) (.cons (.int .u64) (.cons (.cons (.int .i64) (.cons (.int .i64) (.cons .bool (.cons (.int .u64) (.cons (.sl (.int .u8)) (.cons (.sl (.int .u8)) .nil)))))) (.cons (.sl (.int .u8)) .nil)))))) .nil)))) ((wl.take i).map mkB)], fun i => wl.length - i, ⟨0, Nat.zero_le _, rfl, rfl⟩, ?_⟩; clear h2)
        | skip
      rintro i hi
      have g0 : ∀ {i : Nat}, i < wl.length → 0 ≤ wl.getD i 0 ∧ wl.getD i 0 ≤ 255 := fun {i} h => hb _ (getD_mem' h 0)
      rcases Nat.lt_or_ge i wl.length with hlt | hge
      · have hgi := g0 hlt
        have hm12 : 0 ≤ (wl.getD i 0).tmod 12 ∧ (wl.getD i 0).tmod 12 ≤ 11 := by rw [Int.tmod_eq_emod_of_nonneg hgi.1]; omega
        have hp0 := pre_nn hw0 i
        have hp1 := pre_mono hw0 (show i ≤ wl.length by omega)
        have htl : ((wl.take i).map mkB).length = i := by rw [List.length_map, List.length_take]; omega
        repeat' (intro t ht; first | (cases t <;> first | (cases ht; done) | ((try simp only [bn_s] at ht); (try simp only [nd_s] at ht); (try (exfalso; first | contradiction | omega)))) | (refine ht ?_ ?_ <;> clear ht) | (refine ht.1 ?_ ?_ <;> clear ht) | (refine ht ?_; clear ht))
        all_goals (try simp only [nd_s] at *)
        all_goals first
          | exact True.intro
          | omega
          | ((try simp only [nd_s, bn_s, mm_s] at *); omega)
          | (simp only [cast_rfl, List.length_cons, List.length_nil, htl]; constructor <;> omega)
          | (rw [min_u64, max_u64]; omega)
          | skip
        refine ⟨i + 1, by omega, by omega, ?_, ?_⟩
        · (rw [mk_pre hlt]) <;> rfl
        · (rw [← mk_step hlt]) <;> rfl
      · have hiW : i = wl.length := by omega
        have hL : (wl.take i).map mkB = wl.map mkB := by rw [List.take_of_length_le hge]
        have hLl : ((wl.take i).map mkB).length = wl.length := by rw [hL, List.length_map]
        have hS0 := pre_nn hw0 wl.length
        rw [← hiW] at hS0 hle
        repeat' (intro t ht; first | (cases t <;> first | (cases ht; done) | ((try simp only [bn_s] at ht); (try simp only [nd_s] at ht); (try (exfalso; first | contradiction | omega)))) | (refine ht ?_ ?_ <;> clear ht) | (refine ht.1 ?_ ?_ <;> clear ht) | (refine ht ?_; clear ht))
        all_goals first
          | exact True.intro
          | (simp only [hLl]; refine ⟨?_, ?_, ?_, ?_⟩ <;> omega)
          | (intro r h1 h2; clear h1; refine h2 ⟨[1, 5, 6, 9, 10], Nat × List Int, (fun a => (a.1 : Int) ≤ pre (wl.map mkB) i ∧ a.2.length = wl.length ∧ ∀ j, a.2.getD j 0 = if j < wl.length then (cnt (wl.map mkB) f a.1 j : Int) else 0), fun a => [.int .u32 f, .own 0, .int .u64 (pre (wl.map mkB) i), .own 1, .int .u64 a.1], fun a => [.row false (.cons (.int .u64) (.cons (.int .u64) (.cons (.int .u64) (.cons (.sl (.cons (.int .i64) (.cons (.int .u64) (.cons (.int .u64) (.cons (.cons (.int .i64) (.cons (.int .i64) (.cons .bool (.cons (.int .u64) (.cons (.sl (.int .u8)) (.cons (.sl (.int .u8)) .nil)))))) (.cons (.sl (.int .u8)) .nil)))))) .nil)))) ((wl.take i).map mkB), .row false (.int .u64) a.2], fun a => (pre (wl.map mkB) i).toNat - a.1, ⟨(0, List.replicate (((wl.take i).map mkB).length : Int).toNat 0), ⟨by simpa using hS0, by rw [List.length_replicate, hLl]; rfl, fun j => by rw [rep_get]; split <;> rfl⟩, rfl, rfl⟩, ?_⟩; clear h2)
          | skip
        rintro ⟨k, ch⟩ ⟨hk, hcl, hch⟩
        dsimp only at hk hcl hch
        by_cases hkS : (k : Int) < pre (wl.map mkB) i
        · obtain ⟨j, j1, j2, j3⟩ := chR_iff hsm (by rw [hlen, ← hiW]; omega) (f + k)
          rw [hlen] at j1
          rw [← hL] at j2
          have hcj : ch.getD j 0 ≤ k ∧ 0 ≤ ch.getD j 0 := by
            have := cnts_le (wl.map mkB) f j k
            rw [hch j, if_pos j1]; omega
          have hfk : ((f + k : Nat) : Int) = (f : Int) + k := by omega
          rw [hfk] at j2
          have key : ∀ q, (cnt (wl.map mkB) f (k + 1) q : Int) = cnt (wl.map mkB) f k q + (if j = q then 1 else 0) := fun q => by
            have e1 : cnt (wl.map mkB) f (k + 1) q = cnt (wl.map mkB) f k q + (if chR (wl.map mkB) ((f + k : Nat) : Int) = (q : Nat) then 1 else 0) := rfl
            rw [e1, hfk, ← hL, j2]
            by_cases hq : j = q
            · subst hq; rw [if_pos rfl, if_pos rfl]; omega
            · rw [if_neg hq, if_neg (show ¬ (j : Int) = q by omega)]; simp
          repeat' (intro t ht; first | (cases t <;> first | (cases ht; done) | ((try simp only [bn_s] at ht); (try simp only [nd_s] at ht))) | (refine ht ?_ ?_ <;> clear ht) | (refine ht.1 ?_ ?_ <;> clear ht) | (refine ht ?_; clear ht))
          all_goals (try simp only [j2, hLl, nd_s] at *)
          all_goals first
            | exact True.intro
            | contradiction
            | omega
            | ((try simp only [nd_s, bn_s, mm_s] at *); omega)
            | exact ⟨rfl, by first | rfl | exact True.intro⟩
            | (exfalso; omega)
            | skip
          refine ⟨(k + 1, ch.set j (ch.getD j 0 + 1)), ⟨by dsimp only; omega, by rw [List.length_set]; exact hcl, fun q => ?_⟩, by dsimp only; omega, rfl, rfl⟩
          dsimp only
          rw [set_get (by omega), hch q]
          rw [key q]
          by_cases hq : j = q
          · subst hq; rw [if_pos j1, if_pos rfl, if_pos j1]
          · rw [if_neg hq]; simp
        · have hkE : (k : Int) = pre (wl.map mkB) i := by omega
          repeat' (intro t ht; first | (cases t <;> first | (cases ht; done) | ((try simp only [bn_s] at ht); (try simp only [nd_s] at ht); (try (exfalso; first | contradiction | omega)))) | (refine ht ?_ ?_ <;> clear ht) | (refine ht.1 ?_ ?_ <;> clear ht) | (refine ht ?_; clear ht))
          all_goals first
            | exact True.intro
            | (intro r h1 h2; clear h1; refine h2 ⟨[1, 5, 6, 9, 12], Nat, (fun j => j ≤ wl.length), fun j => [.int .u32 f, .own 0, .int .u64 (pre (wl.map mkB) i), .own 1, .int .i64 j], fun _ => [.row false (.cons (.int .u64) (.cons (.int .u64) (.cons (.int .u64) (.cons (.sl (.cons (.int .i64) (.cons (.int .u64) (.cons (.int .u64) (.cons (.cons (.int .i64) (.cons (.int .i64) (.cons .bool (.cons (.int .u64) (.cons (.sl (.int .u8)) (.cons (.sl (.int .u8)) .nil)))))) (.cons (.sl (.int .u8)) .nil)))))) .nil)))) ((wl.take i).map mkB), .row false (.int .u64) ch], fun j => wl.length - j, ⟨0, Nat.zero_le _, rfl, rfl⟩, ?_⟩; clear h2)
            | skip
          rintro j hj
          have hfin : ∀ od, j < wl.length → ch.getD j 0 = ((wl.map mkB).getD j od).1 := fun od hj => by
            rcases Int.lt_or_eq_of_le hS0 with h0 | h0
            · have h1 := cnt_all hsm (by rw [hlen, ← hiW]; exact h0) f j (by rw [hlen]; exact hj)
              rw [pre_step (d := od) (by rw [hlen]; exact hj), hlen, ← hiW, ← hkE, Int.toNat_natCast] at h1
              rw [hch j, if_pos hj]; exact h1
            · have hk0 : k = 0 := by omega
              have h1 := pre_step (l := wl.map mkB) (i := j) (d := od) (by rw [hlen]; exact hj)
              have h2 := pre_mono hw0 (show j + 1 ≤ i by omega)
              have h3 := pre_mono hw0 (show j ≤ j + 1 by omega)
              have h4 := pre_nn hw0 j
              rw [hch j, if_pos hj, hk0]
              show (0 : Int) = _
              omega
          have hz : ¬ 0 < pre (wl.map mkB) i → chR (wl.map mkB) f = -1 := fun h => ch_zero hsm (by rw [hlen, ← hiW]; omega) _
          repeat' (intro t ht; first | (cases t <;> first | (cases ht; done) | ((try simp only [bn_s] at ht); (try simp only [nd_s] at ht))) | (refine ht ?_ ?_ <;> clear ht) | (refine ht.1 ?_ ?_ <;> clear ht) | (refine ht ?_; clear ht))
          all_goals (try generalize (Ty.dflt (.cons (.int .u64) (.cons (.int .u64) (.cons (.int .u64) (.cons (.sl (.cons (.int .i64) (.cons (.int .u64) (.cons (.int .u64) (.cons (.cons (.int .i64) (.cons (.int .i64) (.cons .bool (.cons (.int .u64) (.cons (.sl (.int .u8)) (.cons (.sl (.int .u8)) .nil)))))) (.cons (.sl (.int .u8)) .nil)))))) .nil))))) = od at *)
          all_goals (try simp only [hL, hlen, nd_s] at *)
          all_goals first
            | exact True.intro
            | contradiction
            | omega
            | ((try simp only [nd_s, bn_s, mm_s] at *); omega)
            | exact ⟨rfl, by first | rfl | exact True.intro⟩
            | exact ⟨True.intro, True.intro⟩
            | (exfalso; omega)
            | exact absurd (hz (by assumption)) (by assumption)
            | exact absurd (hfin _ (by omega)) (by assumption)
            | exact ⟨j + 1, by omega, by dsimp only; omega, rfl, rfl⟩
            | exact ⟨j + 1, by omega, by omega, rfl, True.intro⟩
            | skip
    · repeat' (intro t ht; first | (cases t <;> first | (cases ht; done) | ((try simp only [bn_s] at ht); (try simp only [nd_s] at ht); (try (exfalso; first | contradiction | omega)))) | (refine ht ?_ ?_ <;> clear ht) | (refine ht.1 ?_ ?_ <;> clear ht) | (refine ht ?_; clear ht))
      all_goals first
        | exact True.intro
        | exact ⟨rfl, rfl⟩
        | (exfalso; omega)
        | (exfalso; simp_all; done)
        | skip
  · cases e
end Go.Eng
