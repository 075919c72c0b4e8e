/- Regions whose order is drawn: the whole. No condition. -/
import Derived.Test.YtoejpijobbcooaaDoorEDraw
namespace Go.Eng
set_option linter.unusedVariables false
set_option linter.unusedSimpArgs false
open Go.RowKit
def usOf (ios : List (IOper × List Nat)) (i : Nat) : List Nat := match ios[i]? with | some x => x.2 | none => []
def frmOk (x y : IOper) : Bool :=
  (match x.dst with | some d => !memB d (looksOf y) && !(y.dst == some d) | none => true) && (match y.dst with | some d => !memB d (looksOf x) | none => true)
def drawOne (ios : List (IOper × List Nat)) (k : Nat) (o : Oper) (x : IOper) (us : List Nat) : Bool :=
  (o.after.toList.all fun e => !Region.binds .any e || decide (e.on < k)) &&
  ((List.range k).all fun j => memB j us || o.after.toList.any fun e => Region.binds .any e && (e.on == j || (decide (j < e.on) && !memB j (usOf ios e.on)))) &&
  (us.all fun j => decide (j < k) && (match ios[j]? with | some y => frmOk y.1 x | none => false))
def drawOk (P : Program) (n : Nat) (ops : Array Oper) (all : List (IOper × List Nat)) : Nat → List Oper → List (IOper × List Nat) → Bool
  | _, [], [] => true
  | k, o :: r, x :: l => operOk P n ops o x.1 && drawOne all k o x.1 x.2 && drawOk P n ops all (k + 1) r l
  | _, _, _ => false
theorem memB_not {i : Nat} : ∀ {l : List Nat}, i ∉ l → memB i l = false
  | [], _ => rfl
  | j :: r, h => by
    unfold memB
    have : Nat.beq j i = false := by rw [← Bool.not_eq_true, Nat.beq_eq]; intro e; exact h (by simp [e])
    rw [this]
    exact memB_not fun h' => h (List.mem_cons_of_mem _ h')
section
variable {P : Program} {Γ : Env} {ops : Array Oper} {n : Nat} {X0 : Bool → Nat → Prop} {I0 : Nat → Prop} {w0 : World}
theorem guard_imp {fr fr' : Frame} {g : Option (Nat × Bool)} (e : fr' = fr ∨ ∃ i v, g = some (i, v) ∧ ∃ b, fr.get i = .bool b ∧ fr' = (i, .kb b) :: fr) (x : Nat) : Imp (fr.get x) (fr'.get x) := by
  rcases e with rfl | ⟨i, v, _, b, hb, rfl⟩
  · exact Imp.refl _
  · rw [Frame.get_cons]
    split
    · rename_i h; subst h; rw [hb]; exact fun h => h
    · exact Imp.refl _
theorem putD_other {d : Option Nat} {v : AV} {fr : Frame} {i : Nat} (h : d ≠ some i) : (putD d v fr).get i = fr.get i := by
  cases d with
  | none => rfl
  | some d => unfold putD; rw [Frame.get_cons, if_neg (fun e => h (by rw [e]))]
theorem putD_self {d : Option Nat} {v : AV} {fr : Frame} {i : Nat} (h : d = some i) : (putD d v fr).get i = v := by
  subst h; unfold putD; rw [Frame.get_cons, if_pos rfl]
theorem step_chain (hΓ : EnvOk P Γ) {o : Oper} {x : IOper} {C : List Nat → List Nat → Bool} {fr : Frame} {st : Store} {nx : Nat} {K : List Nat → List Nat → Frame → Store → Nat → Prop} (hok : operOk P n ops o x = true) (hst : ∀ i, st.get i ≠ none → i < nx)
    (ev : evGuard x.guard fr
      (fun fr => footK x.op fr st fun F => evOp Γ x.op fr st nx fun v st1 nx1 => forceN (wrL (opWr Γ x.op fr) F st st1 nx nx1) fun W => match C F W with
        | true => K F W (putD x.dst v fr) st1 nx1
        | false => False)
      fun fr => K [] [] (putD x.dst .skp fr) st nx) :
    ∃ s fr1, K s.F s.W fr1 s.st1 s.hi ∧ SF P ops X0 I0 w0 fr st nx s ∧ (∀ i, s.d ≠ some i → Imp (fr.get i) (fr1.get i)) ∧ (∀ i, s.d = some i → Imp s.v (fr1.get i)) ∧ s.o = o ∧ s.d = x.dst ∧ s.looks = looksOf x ∧
      ((s.F = [] ∧ s.W = []) ∨ C s.F s.W = true) ∧ ∀ i, s.st1.get i ≠ none → i < s.hi := by
  simp only [operOk, Bool.and_eq_true] at hok
  obtain ⟨⟨⟨hd, hop⟩, hsup⟩, hg⟩ := hok
  obtain ⟨fr', t, ev', hfr, hw⟩ := guard_cases hg ev
  have hgl : ∀ i v, x.guard = some (i, v) → i ∈ looksOf x := fun i v h => by unfold looksOf; rw [h]; simp
  cases t with
  | true =>
    obtain ⟨F, ev2, hcl, hfoot⟩ := footK_cases ev'
    obtain ⟨v, st1, nx1, T, hle, hK, h3, h4, run⟩ := op_mok (F := (· ∈ F)) hΓ hst hsup hop hcl hfoot ev2
    simp only [forceN_eq] at hK
    cases hc : C F (wrL (opWr Γ x.op fr') F st st1 nx nx1) with
    | false => rw [hc] at hK; exact hK.elim
    | true =>
      rw [hc] at hK
      have hT : ∀ i ∈ T, ((i ∈ F ∧ i ∈ wrL (opWr Γ x.op fr') F st st1 nx nx1 ∧ i < nx) ∨ (nx ≤ i ∧ i < nx1)) ∨ (i ∈ F ∧ st1.get i = st.get i) := fun i hi => by
        rcases h4 i hi with ⟨q1, q2, q3⟩ | h
        · rcases q3 with h | h | h
          · refine .inl (.inl ⟨q1, ?_, hst i q2⟩)
            unfold wrL; rw [h]; exact List.mem_append.2 (.inl q1)
          · exact .inr ⟨q1, h⟩
          · refine .inl (.inl ⟨q1, ?_, hst i q2⟩)
            unfold wrL
            cases opWr Γ x.op fr' with
            | true => exact List.mem_append.2 (.inl q1)
            | false => exact List.mem_append.2 (.inl (flipL_mem q1 h))
        · exact .inl (.inr h)
      have mT : ∀ {i : Nat}, i ∈ T.filter (fun i => (decide (i ∈ F) && decide (i ∈ wrL (opWr Γ x.op fr') F st st1 nx nx1) && decide (i < nx)) || (decide (nx ≤ i) && decide (i < nx1))) ↔ i ∈ T ∧ ((i ∈ F ∧ i ∈ wrL (opWr Γ x.op fr') F st st1 nx nx1 ∧ i < nx) ∨ (nx ≤ i ∧ i < nx1)) := fun {i} => by
        rw [List.mem_filter]
        simp only [Bool.or_eq_true, Bool.and_eq_true, decide_eq_true_eq, and_assoc]
      refine ⟨⟨o, x.dst, looksOf x, F, wrL (opWr Γ x.op fr') F st st1 nx nx1, v, st1, nx, nx1, T.filter (fun i => (decide (i ∈ F) && decide (i ∈ wrL (opWr Γ x.op fr') F st st1 nx nx1) && decide (i < nx)) || (decide (nx ≤ i) && decide (i < nx1)))⟩, putD x.dst v fr', hK, ⟨rfl, hle, fun i hi => ?_, fun i hi => (mT.1 hi).2, fun i h1 h2 => ?_, fun {σ I w m a} N Q hlk hs ha hN k => ?_⟩, fun i hi => ?_, fun i hi => ?_, rfl, rfl, rfl, .inr hc, fun i hi => ?_⟩
      · by_cases hiT : i ∈ T
        · rcases hT i hiT with h | h
          · exact absurd (mT.2 ⟨hiT, h⟩) hi
          · exact h.2
        · exact h3 i hiT
      · have h2 : i < nx1 := h2
        exact List.mem_append.2 (.inr (rangeN_mem h1 (by omega)))
      · rw [hw I w m a fun i v h => hlk i (hgl i v h)]
        simp only [if_true]
        refine run (fun i hi => guard_imp hfr i (hlk i ?_)) hs ha hN N Q fun cv I' w' m' hgood => k cv I' w' m' ?_
        · exact List.mem_append.2 (.inl (List.mem_filterMap.2 ⟨.t i, hi, rfl⟩))
        · obtain ⟨q1, q2, q3, q4⟩ := hgood
          refine ⟨q1, ?_, q3, q4⟩
          have : upd σ T st1 = upd σ (T.filter (fun i => (decide (i ∈ F) && decide (i ∈ wrL (opWr Γ x.op fr') F st st1 nx nx1) && decide (i < nx)) || (decide (nx ≤ i) && decide (i < nx1)))) st1 := funext fun i => by
            by_cases h1 : i ∈ T
            · by_cases h2 : i ∈ T.filter (fun i => (decide (i ∈ F) && decide (i ∈ wrL (opWr Γ x.op fr') F st st1 nx nx1) && decide (i < nx)) || (decide (nx ≤ i) && decide (i < nx1)))
              · rw [upd_in h1, upd_in h2]
              · rw [upd_in h1, upd_out h2]
                rcases hT i h1 with h | h
                · exact absurd (mT.2 ⟨h1, h⟩) h2
                · rw [h.2, ha i h.1]
            · rw [upd_out h1, upd_out fun h => h1 (mT.1 h).1]
          rw [← this]; exact q2
      · rw [putD_other hi]; exact guard_imp hfr i
      · rw [putD_self hi]; exact Imp.refl _
      · by_cases hiT : i ∈ T
        · rcases h4 i hiT with ⟨_, q2, _⟩ | h
          · have := hst i q2; exact Nat.lt_of_lt_of_le this hle
          · exact h.2
        · have h3' := h3 i hiT
          have hi : st1.get i ≠ none := hi
          rw [h3'] at hi
          have := hst i hi; exact Nat.lt_of_lt_of_le this hle
  | false =>
    refine ⟨⟨o, x.dst, looksOf x, [], [], .skp, st, nx, nx, []⟩, putD x.dst .skp fr', ev', ⟨rfl, Nat.le_refl _, fun _ _ => rfl, fun i hi => (by cases hi), fun i h1 h2 => absurd h2 (Nat.not_lt.2 h1), fun {σ I w m a} N Q hlk hs ha hN k => ?_⟩, fun i hi => ?_, fun i hi => ?_, rfl, rfl, rfl, .inl ⟨rfl, rfl⟩, hst⟩
    · rw [hw I w m a fun i v h => hlk i (hgl i v h)]
      simp only [Bool.false_eq_true, if_false]
      exact k undef I w m ⟨rfl, by rw [upd_nil]; exact hs, Evo.refl _ _ _, fun _ h => .inl h⟩
    · rw [putD_other hi]; exact guard_imp hfr i
    · rw [putD_self hi]; exact Imp.refl _
theorem evOpsR_cons {Γ : Env} {x : IOper} {us : List Nat} {l : List (IOper × List Nat)} {hist : List (List Nat × List Nat)} {fr : Frame} {st : Store} {nx : Nat} {K : Frame → Store → Nat → Prop} : evOpsR Γ ((x, us) :: l) hist fr st nx K = evGuard x.guard fr
      (fun fr => footK x.op fr st fun F => evOp Γ x.op fr st nx fun v st1 nx1 => forceN (wrL (opWr Γ x.op fr) F st st1 nx nx1) fun W => match conflE hist F W us with
        | true => evOpsR Γ l ((F, W) :: hist) (putD x.dst v fr) st1 nx1 K
        | false => False)
      fun fr => evOpsR Γ l (([], []) :: hist) (putD x.dst .skp fr) st nx K := by
  show evGuard x.guard fr
      (fun fr => footK x.op fr st fun F => evOp Γ x.op fr st nx fun v st1 nx1 => litN nx1 fun nx1 => forceN (wrL (opWr Γ x.op fr) F st st1 nx nx1) fun W => match conflE hist F W us with
        | true => putDK x.dst v fr fun fr => evOpsR Γ l ((F, W) :: hist) fr st1 nx1 K
        | false => False)
      (fun fr => putDK x.dst .skp fr fun fr => evOpsR Γ l (([], []) :: hist) fr st nx K) = _
  simp only [litN_eq, putDK_eq]
theorem absA_len : ∀ (l : List (IOper × List Nat)) (k : Nat), (absA k l).length = l.length
  | [], _ => rfl
  | _ :: r, k => by simp only [absA, List.length_cons, absA_len r]
theorem evD_chain (hΓ : EnvOk P Γ) {all : List (IOper × List Nat)} {K : Frame → Store → Nat → Prop} : ∀ {os : List Oper} {ios : List (IOper × List Nat)} {k : Nat} {hist : List (List Nat × List Nat)} {fr : Frame} {st : Store} {nx : Nat}, hist.length = k → drawOk P n ops all k os (absA k ios) = true → (∀ i, st.get i ≠ none → i < nx) → evOpsR Γ ios hist.reverse fr st nx K →
    ∃ l fr2 st2 nx2, K fr2 st2 nx2 ∧ Chain P ops X0 I0 w0 fr st nx l fr2 st2 nx2 ∧ l.length = os.length ∧ (absA k ios).length = os.length ∧
      (∀ j (h : j < l.length) (h1 : j < os.length) (h2 : j < (absA k ios).length), l[j].o = os[j] ∧ l[j].d = (absA k ios)[j].1.dst ∧ l[j].looks = looksOf (absA k ios)[j].1 ∧ dstOk n os[j].dst (absA k ios)[j].1.dst = true ∧ drawOne all (k + j) os[j] (absA k ios)[j].1 (absA k ios)[j].2 = true ∧
        ((l[j].F = [] ∧ l[j].W = []) ∨ confl (hist ++ (l.take j).map fun s => (s.F, s.W)) l[j].F l[j].W (absA k ios)[j].2 = true))
  | [], [], k, hist, fr, st, nx, _, _, _, ev => ⟨[], fr, st, nx, ev, .nil, rfl, rfl, fun j h => absurd h (by simp)⟩
  | o :: r, x :: l, k, hist, fr, st, nx, hk, hok, hst, ev => by
    obtain ⟨x, us⟩ := x
    have hab : absA k ((x, us) :: l) = (x, usA k us) :: absA (k + 1) l := rfl
    rw [hab] at hok
    simp only [drawOk, Bool.and_eq_true] at hok
    obtain ⟨⟨h1, h2⟩, h3⟩ := hok
    rw [evOpsR_cons] at ev
    obtain ⟨s, fr1, e1, e2, e3, e4, e5, e6, e7, e8, e9⟩ := step_chain (X0 := X0) (I0 := I0) (w0 := w0) (C := fun F W => conflE hist.reverse F W us) (K := fun F W fr st nx => evOpsR Γ l ((F, W) :: hist.reverse) fr st nx K) hΓ h1 hst ev
    have hrev : (s.F, s.W) :: hist.reverse = (hist ++ [(s.F, s.W)]).reverse := by simp
    rw [hrev] at e1
    obtain ⟨ls, fr2, st2, nx2, k1, k2, k3, k4, k5⟩ := evD_chain hΓ (k := k + 1) (by simp [hk]) h3 e9 e1
    have hus : ∀ j ∈ usA k us, j < k := fun j hj => by
      simp only [drawOne, Bool.and_eq_true, List.all_eq_true, decide_eq_true_eq] at h2
      exact (h2.2 j hj).1
    have e8' : (s.F = [] ∧ s.W = []) ∨ confl hist s.F s.W (usA k us) = true := e8.imp id fun h => conflE_of hk hus h
    refine ⟨s :: ls, fr2, st2, nx2, k1, .cons e2 e3 e4 k2, by simp [k3], by rw [hab, List.length_cons, k4, List.length_cons], fun j h h1' h2' => ?_⟩
    cases j with
    | zero =>
      simp only [operOk, Bool.and_eq_true] at h1
      exact ⟨e5, e6, e7, h1.1.1.1, h2, by simpa [hab] using e8'⟩
    | succ j =>
      have h2'' : j < (absA (k + 1) l).length := by rw [hab, List.length_cons] at h2'; omega
      obtain ⟨q1, q2, q3, q4, q5, q6⟩ := k5 j (by simpa using h) (by simpa using h1') h2''
      simp only [hab, List.getElem_cons_succ, List.take_succ_cons, List.map_cons]
      refine ⟨q1, q2, q3, q4, by rw [show k + (j + 1) = k + 1 + j by omega]; exact q5, q6.imp id fun h => by simpa using h⟩
  | [], x :: l, k, _, _, _, _, _, hok, _, _ => by
    obtain ⟨x, us⟩ := x
    cases hok
  | _ :: _, [], _, _, _, _, _, _, hok, _, _ => by cases hok
theorem confl_of : ∀ {us : List Nat} {hist : List (List Nat × List Nat)} {F W : List Nat}, confl hist F W us = true → ∀ j ∈ us, ∃ Fj Wj, hist[j]? = some (Fj, Wj) ∧ (∀ i ∈ Wj, i ∉ F) ∧ ∀ i ∈ Fj, i ∉ W
  | [], _, _, _, _ => fun j hj => by cases hj
  | u :: r, hist, F, W, h => fun j hj => by
    unfold confl at h
    split at h
    · rename_i Fj Wj tl hd
      split at h
      · rename_i hd1
        split at h
        · rename_i hd2
          rcases List.mem_cons.1 hj with rfl | hj
          · refine ⟨Fj, Wj, ?_, disj_of hd1, disj_of hd2⟩
            have : (hist.drop j)[0]? = some (Fj, Wj) := by rw [hd]; rfl
            rw [List.getElem?_drop, Nat.add_zero] at this; exact this
          · exact confl_of h j hj
        · cases h
      · cases h
    · cases h
theorem plan_of {all : List (IOper × List Nat)} {l : List Stp} (hl : l.length = ops.toList.length) (ha : all.length = ops.toList.length)
    (h : ∀ j (h : j < l.length) (h1 : j < ops.toList.length) (h2 : j < all.length), l[j].o = ops.toList[j] ∧ l[j].d = all[j].1.dst ∧ l[j].looks = looksOf all[j].1 ∧ dstOk n ops.toList[j].dst all[j].1.dst = true ∧ drawOne all (0 + j) ops.toList[j] all[j].1 all[j].2 = true ∧
        ((l[j].F = [] ∧ l[j].W = []) ∨ confl ([] ++ (l.take j).map fun s => (s.F, s.W)) l[j].F l[j].W all[j].2 = true)) : Plan P n ops l := by
  have hsz : l.length = ops.size := by rw [hl]; simp
  have hget : ∀ k (hk : k < ops.toList.length), ops[k]? = some ops.toList[k] := fun k hk => by
    rw [← Array.getElem?_toList, List.getElem?_eq_getElem hk]
  have hedge : ∀ k j, Edges ops k j → j < k := fun k j ⟨o, ho, e, he, hb, hj⟩ => by
    have hk : k < ops.toList.length := by
      rcases Nat.lt_or_ge k ops.size with h | h
      · simpa using h
      · rw [Array.getElem?_eq_none h] at ho; cases ho
    rw [hget k hk] at ho; cases ho
    obtain ⟨_, _, _, _, q, _⟩ := h k (by omega) hk (by omega)
    simp only [drawOne, Bool.and_eq_true, List.all_eq_true, Bool.or_eq_true, decide_eq_true_eq, Nat.zero_add] at q
    have := q.1.1 e (by simpa using he)
    rcases this with h | h
    · rw [hb] at h; cases h
    · omega
  have hbef : ∀ k (hk : k < all.length) j, j < k → j ∉ all[k].2 → Bef ops j k := fun k => by
    induction k using Nat.strongRecOn with
    | ind k ih =>
      intro hk j hjk hju
      have hk' : k < ops.toList.length := by omega
      obtain ⟨_, _, _, _, q, _⟩ := h k (by omega) hk' hk
      simp only [drawOne, Bool.and_eq_true, List.all_eq_true, Nat.zero_add] at q
      have := q.1.2 j (by simpa using hjk)
      rw [memB_not hju, Bool.false_or, List.any_eq_true] at this
      obtain ⟨e, he, hb⟩ := this
      simp only [Bool.and_eq_true, Bool.or_eq_true, beq_iff_eq, decide_eq_true_eq, Bool.not_eq_true'] at hb
      obtain ⟨hb, h'⟩ := hb
      have hed : Edges ops k e.on := ⟨_, hget k hk', e, by simpa using he, hb, rfl⟩
      rcases h' with h' | ⟨h1, h2⟩
      · rw [← h']; exact .dir hed
      · have hlt := hedge k _ hed
        refine .tr (ih e.on hlt (by omega) j h1 ?_) hed
        have : usOf all e.on = (all[e.on]'(by omega)).2 := by unfold usOf; rw [List.getElem?_eq_getElem (by omega)]
        rw [this] at h2
        exact memB_of h2
  refine ⟨hsz, fun k hk => ?_, fun j k h1 h2 hjk => ?_, hedge⟩
  · obtain ⟨q1, q2, _, q4, _⟩ := h k hk (by omega) (by omega)
    rw [q1, q2]; exact ⟨hget k (by omega), q4⟩
  · by_cases hu : j ∈ (all[k]'(by omega)).2
    · left
      obtain ⟨q1, q2, q3, q4, q5, q6⟩ := h k h2 (by omega) (by omega)
      obtain ⟨p1, p2, p3, _, _, _⟩ := h j h1 (by omega) (by omega)
      simp only [drawOne, Bool.and_eq_true, List.all_eq_true, Nat.zero_add, decide_eq_true_eq] at q5
      obtain ⟨_, hf⟩ := q5.2 j hu
      rw [List.getElem?_eq_getElem (by omega)] at hf
      simp only [frmOk, Bool.and_eq_true] at hf
      have hFW : (∀ x ∈ l[j].W, x ∉ l[k].F) ∧ ∀ x ∈ l[j].F, x ∉ l[k].W := by
        rcases q6 with ⟨e1, e2⟩ | hc
        · rw [e1, e2]; exact ⟨fun _ _ h => (by cases h), fun _ _ h => (by cases h)⟩
        · obtain ⟨Fj, Wj, e1, e2, e3⟩ := confl_of hc j hu
          rw [List.nil_append, List.getElem?_map, List.getElem?_take, if_pos hjk, List.getElem?_eq_getElem h1] at e1
          cases e1
          exact ⟨e2, e3⟩
      refine ⟨hFW.1, hFW.2, fun d hd => ?_, fun d hd => ?_⟩
      · rw [p2] at hd
        have := hf.1
        rw [hd] at this
        simp only [Bool.and_eq_true, Bool.not_eq_true', beq_eq_false_iff_ne, ne_eq] at this
        rw [q3, q2]
        exact ⟨memB_of this.1, this.2⟩
      · rw [q2] at hd
        have := hf.2
        rw [hd] at this
        simp only [Bool.not_eq_true'] at this
        rw [p3]; exact memB_of this
    · exact .inr (hbef k (by omega) j hjk hu)
theorem any_sound {k0 : Nat} {m0 : M} {fr fr2 : Frame} {st st2 : Store} {nx nx2 : Nat} {l : List Stp} {Q : Exit → Act → World → Prop} (hc : Chain P ops X0 I0 w0 fr st nx l fr2 st2 nx2) (hp : Plan P n ops l)
    (fin : ∀ I w m a, Sta n k0 X0 I0 w0 m0 fr2 st2 nx2 I w m a → Q .normal a w) : ∀ (fuel : Nat) (listed : Array Bool) (todo : List Nat) (I : Nat → Prop) (w : World) (m : M) (a : Act), listed.size = ops.size → todo.Nodup → (∀ k, k ∈ todo ↔ k < ops.size ∧ listed.getD k false = false) → todo.length ≤ fuel →
      ClosedL ops (fun k => listed.getD k false) → Inv n k0 X0 I0 w0 m0 fr st nx l (fun k => listed.getD k false) I w m a → wpAny P .any ops Q fuel listed a w := by
  have done : ∀ (listed : Array Bool) (I : Nat → Prop) (w : World) (m : M) (a : Act), (∀ k, k < ops.size → listed.getD k false = true) → Inv n k0 X0 I0 w0 m0 fr st nx l (fun k => listed.getD k false) I w m a → Q .normal a w := fun listed I w m a hall h => by
    refine fin I w m a ⟨h.size, h.defers, fun x => ?_, ?_, h.same, h.kept, fun i hi => ?_⟩
    · exact foldF_agree hc (fun j hj hl => by rw [Nat.zero_add] at hl; rw [hall j (by rw [← hp.len]; exact hj)] at hl; cases hl) (Imp.refl _) (h.f x)
    · have : foldS (fun k => listed.getD k false) l 0 st.get = st2.get := funext fun x => foldS_agree hc (fun j hj hl => by rw [Nat.zero_add] at hl; rw [hall j (by rw [← hp.len]; exact hj)] at hl; cases hl) rfl
      rw [← this]; exact h.hs
    · rcases h.lt i hi with h' | ⟨k, hk, _, _, h'⟩
      · have := hc.le; omega
      · have := (hc.ge _ (List.getElem_mem hk)).2; omega
  have ready0 : ∀ listed : Array Bool, listed.size = ops.size → Region.ready .any ops listed = [] → ∀ k, k < ops.size → listed.getD k false = true := fun listed hsz hr k => by
    induction k using Nat.strongRecOn with
    | ind k ih =>
      intro hk
      cases hl : listed.getD k false with
      | true => rfl
      | false =>
        exfalso
        have hm : k ∈ Region.ready .any ops listed := mem_ready.2 ⟨by
          rw [Array.getD_eq_getD_getElem?, Array.getElem?_eq_getElem (by omega)] at hl ⊢; exact hl, ops[k], Array.getElem?_eq_getElem hk, fun e he hb => by
            have := hp.edge k e.on ⟨_, Array.getElem?_eq_getElem hk, e, he, hb, rfl⟩
            exact ih e.on this (by omega)⟩
        rw [hr] at hm; cases hm
  intro fuel
  induction fuel with
  | zero =>
    intro listed todo I w m a hsz hnd htd hlen hcl h
    have hnil : todo = [] := List.length_eq_zero_iff.1 (by omega)
    have hall : ∀ k, k < ops.size → listed.getD k false = true := fun k hk => by
      cases hl : listed.getD k false with
      | true => rfl
      | false => have := (htd k).2 ⟨hk, hl⟩; rw [hnil] at this; cases this
    refine ⟨?_, done listed I w m a hall h⟩
    cases hr : Region.ready .any ops listed with
    | nil => rfl
    | cons i r =>
      have hi : i ∈ Region.ready .any ops listed := by rw [hr]; exact List.mem_cons_self ..
      obtain ⟨h1, o, ho, _⟩ := mem_ready.1 hi
      have hlt : i < ops.size := (Array.getElem?_eq_some_iff.1 ho).1
      have := hall i hlt
      rw [Array.getD_eq_getD_getElem?, Array.getElem?_eq_getElem (by omega)] at this h1
      simp only [Option.getD_some] at this h1
      rw [this] at h1; cases h1
  | succ fuel ih =>
    intro listed todo I w m a hsz hnd htd hlen hcl h
    refine ⟨fun hr => done listed I w m a (ready0 listed hsz hr) h, fun i hi => ?_⟩
    obtain ⟨h1, o, ho, hed⟩ := mem_ready.1 hi
    have hlt : i < ops.size := (Array.getElem?_eq_some_iff.1 ho).1
    have hLi : listed.getD i false = false := by
      rw [Array.getD_eq_getD_getElem?, Array.getElem?_eq_getElem (by omega)] at h1 ⊢; exact h1
    have hedges : ∀ j, Edges ops i j → listed.getD j false = true := fun j ⟨o', ho', e, he, hb, hj⟩ => by
      rw [ho] at ho'; cases ho'
      rw [← hj]; exact hed e he hb
    have hset : ∀ k, (listed.setIfInBounds i true).getD k false = if k = i then true else listed.getD k false := fun k => by
      rw [Array.getD_eq_getD_getElem?, Array.getD_eq_getD_getElem?]
      by_cases e : k = i
      · subst e; rw [if_pos rfl, Array.getElem?_setIfInBounds_self]; simp [show k < listed.size by omega]
      · rw [if_neg e, Array.getElem?_setIfInBounds_ne (fun h => e h.symm)]
    refine inv_step hc hp hcl (by rw [hp.len]; exact hlt) hLi hedges h fun I' w' m' a' h' => ?_
    have hmem : i ∈ todo := (htd i).2 ⟨hlt, hLi⟩
    refine ih (listed.setIfInBounds i true) (todo.erase i) I' w' m' a' (by rw [Array.size_setIfInBounds]; exact hsz) (hnd.erase i) (fun k => ?_) (by rw [List.length_erase_of_mem hmem]; omega) (fun k hk j hj => ?_) ?_
    · rw [hnd.mem_erase_iff, htd k, hset]
      by_cases e : k = i
      · subst e; simp
      · simp [e]
    · have hk : (listed.setIfInBounds i true).getD k false = true := hk
      show (listed.setIfInBounds i true).getD j false = true
      rw [hset] at hk ⊢
      split at hk
      · rename_i e; subst e
        split
        · rfl
        · exact hedges j hj
      · split
        · rfl
        · exact hcl k hk j hj
    · have e : (fun k => (listed.setIfInBounds i true).getD k false) = fun k => if k = i then true else listed.getD k false := funext hset
      rw [e]; exact h'
theorem draw_sound (hm : P.follows .mixedOrders = true) (hΓ : EnvOk P Γ) {k0 : Nat} {m0 : M} {ios : List (IOper × List Nat)} {id : Nat} {fr : Frame} {st : Store} {nx : Nat} {I : Nat → Prop} {w : World} {m : M} {a : Act} {Q : Exit → Act → World → Prop} {K : Frame → Store → Nat → Prop}
    (hok : drawOk P n ops (absA 0 ios) 0 ops.toList (absA 0 ios) = true) (h : Sta n k0 X0 I0 w0 m0 fr st nx I w m a) (ev : evOpsR Γ ios [] fr st nx K)
    (fin : ∀ fr' st' nx' I' w' m' a', K fr' st' nx' → Sta n k0 X0 I0 w0 m0 fr' st' nx' I' w' m' a' → Q .normal a' w') : (Code.region id ops true).wp P Q a w := by
  obtain ⟨l, fr2, st2, nx2, k1, k2, k3, k4, k5⟩ := evD_chain (X0 := X0) (I0 := I0) (w0 := w0) (hist := []) hΓ rfl hok h.st_lt ev
  have hp := plan_of (P := P) k3 k4 k5
  refine wp_region_any hm (any_sound (m0 := m0) (k0 := k0) k2 hp (fun I' w' m' a' hS => fin _ _ _ _ _ _ _ k1 hS) ops.size _ (List.range ops.size) I _ m a (by simp) List.nodup_range (fun k => ?_) (by simp) (fun k hk => ?_) ?_)
  · rw [List.mem_range, Array.getD_eq_getD_getElem?, Array.getElem?_replicate]
    constructor
    · intro h; simp [h]
    · intro h; exact h.1
  · simp only [Array.getD_eq_getD_getElem?, Array.getElem?_replicate] at hk
    split at hk <;> simp at hk
  · have hL : (fun k => (Array.replicate ops.size false).getD k false) = fun _ => false := funext fun k => by
      rw [Array.getD_eq_getD_getElem?, Array.getElem?_replicate]; split <;> rfl
    rw [hL]
    have fS : ∀ (l : List Stp) k σ, foldS (fun _ => false) l k σ = σ := fun l => by
      induction l with
      | nil => intros; rfl
      | cons s r ih => intro k σ; unfold foldS; simp only [Bool.false_eq_true, if_false]; exact ih _ _
    have fF : ∀ (l : List Stp) k φ, foldF (fun _ => false) l k φ = φ := fun l => by
      induction l with
      | nil => intros; rfl
      | cons s r ih => intro k φ; unfold foldF; simp only [Bool.false_eq_true, if_false]; exact ih _ _
    have hsame : Same I w { w with drawn := w.drawn + 1 } := fun _ _ => rfl
    have hE : Evo I w m I { w with drawn := w.drawn + 1 } m := ⟨fun _ h => h, hsame, m.le_refl⟩
    have hfr : Fr (X0 true) w0 { w with drawn := w.drawn + 1 } := ⟨h.hs.fr0.os, h.hs.fr0.tape, h.hs.fr0.output, h.hs.fr0.size, h.hs.fr0.block⟩
    refine ⟨h.size, h.defers, by rw [fF]; exact h.f.evo hE, ?_, h.same, h.kept, fun i hi => .inl (h.lt i hi)⟩
    rw [fS]
    exact ⟨⟨h.hs.H.lt, fun i o ho => (h.hs.H.obj i o ho).mono (fun _ h => h) hsame m.le_refl (h.hs.H.lt i (by rw [ho]; intro h; cases h)) (fun _ _ _ => rfl), h.hs.H.inj, h.hs.H.notI, h.hs.H.isI, h.hs.H.Ilt⟩, hfr, h.hs.Isub, h.hs.Inew, h.hs.own, h.hs.ownL⟩
end
end Go.Eng
