/- A call does what the function's summary says. No condition. -/
import Derived.Test.YtoejpijobbcooaaDoorECall
namespace Go.Eng
set_option linter.unusedVariables false
set_option linter.unusedSimpArgs false
open Go.RowKit
/-- Memory that is held to be read only for a while. -/
def Ib (I : Nat → Prop) (m : M) (js : List Nat) : Nat → Prop := fun b => I b ∨ ∃ i ∈ js, m.blk i = some b
theorem Ib.mono {I : Nat → Prop} {m : M} {js js' : List Nat} (h : ∀ i ∈ js, i ∈ js') : ∀ b, Ib I m js b → Ib I m js' b := fun b hb => hb.imp id fun ⟨i, hi, e⟩ => ⟨i, h i hi, e⟩
/-- What may be lent. -/
def Lent (st : Store) (i : Nat) : Prop := (∃ fz t x, st.get i = some (.row fz t x)) ∨ ∃ l, st.get i = some (.box l)
theorem bor0_sound {st : Store} {v : AV} {js : List Nat} {K0 : AV → List Nat → Prop} (ev : bor0 st v js K0) : ∃ v' js', K0 v' js' ∧ (∀ K, bor0 st v js K → K v' js') ∧ (∀ i ∈ js, i ∈ js') ∧ (∀ i ∈ js', i ∈ js ∨ (i ∈ v.ids0 ∧ Lent st i)) ∧ (∀ i ∈ v'.ids0, i ∈ v.ids0) ∧
    ∀ {I : Nat → Prop} {w : World} {m : M} {σ : Sto} {cv : Value}, HRel I w m σ → (∀ i ∈ v.ids0, σ i = st.get i) → RV0 I w m v cv → RV0 (Ib I m js') w m v' cv := by
  have keep : ∀ {v : AV}, (∀ K, bor0 st v js K = K v js) → bor0 st v js K0 → ∃ v' js', K0 v' js' ∧ (∀ K, bor0 st v js K → K v' js') ∧ (∀ i ∈ js, i ∈ js') ∧ (∀ i ∈ js', i ∈ js ∨ (i ∈ v.ids0 ∧ Lent st i)) ∧ (∀ i ∈ v'.ids0, i ∈ v.ids0) ∧
      ∀ {I : Nat → Prop} {w : World} {m : M} {σ : Sto} {cv : Value}, HRel I w m σ → (∀ i ∈ v.ids0, σ i = st.get i) → RV0 I w m v cv → RV0 (Ib I m js') w m v' cv := fun {v} e ev =>
    ⟨v, js, by rw [e] at ev; exact ev, fun K h => by rw [e] at h; exact h, fun i hi => hi, fun i hi => .inl hi, fun i hi => hi, fun {I w m σ cv} _ _ hv => RV0_mono (fun _ h => .inl h) (fun _ _ => rfl) m.le_refl _ _ hv⟩
  cases v with
  | own i =>
    cases hg : st.get i with
    | none => simp only [bor0, hg] at ev
    | some o =>
      cases o with
      | row fz t x =>
        simp only [bor0, hg] at ev
        refine ⟨_, _, ev, fun K h => by simp only [bor0, hg] at h; exact h, fun j hj => List.mem_cons_of_mem _ hj, fun j hj => ?_, fun j hj => (by simp [AV.ids0] at hj), fun {I w m σ cv} hH ha hv => ?_⟩
        · rcases List.mem_cons.1 hj with rfl | h
          · exact .inr ⟨by simp [AV.ids0], .inl ⟨fz, t, x, hg⟩⟩
          · exact .inl h
        · exact own_imm (fun _ h => .inl h) (hH.obj i _ (by rw [ha i (by simp [AV.ids0]), hg])) hv fun b hb => .inr ⟨i, by simp, hb⟩
      | _ => simp only [bor0, hg] at ev
  | view i off n =>
    cases hg : st.get i with
    | none => simp only [bor0, hg] at ev
    | some o =>
      cases o with
      | row fz t x =>
        simp only [bor0, hg] at ev
        obtain ⟨hn, ev⟩ := need_both ev
        refine ⟨_, _, ev, fun K h => by simp only [bor0, hg] at h; exact (need_both h).2, fun j hj => List.mem_cons_of_mem _ hj, fun j hj => ?_, fun j hj => (by simp [AV.ids0] at hj), fun {I w m σ cv} hH ha hv => ?_⟩
        · rcases List.mem_cons.1 hj with rfl | h
          · exact .inr ⟨by simp [AV.ids0], .inl ⟨fz, t, x, hg⟩⟩
          · exact .inl h
        · exact view_imm (fun _ h => .inl h) (hH.obj i _ (by rw [ha i (by simp [AV.ids0]), hg])) hv hn fun b hb => .inr ⟨i, by simp, hb⟩
      | _ => simp only [bor0, hg] at ev
  | bview i off n t =>
    cases hg : st.get i with
    | none => simp only [bor0, hg] at ev
    | some o =>
      cases o with
      | box l =>
        simp only [bor0, hg] at ev
        obtain ⟨x, ev', heq, hlen, h⟩ := bview_cells (I := fun _ => False) (w := default) (m := ⟨fun _ => none, fun _ => 0, fun _ => 0, fun _ => 0, fun _ => False⟩) (i := 0) ev
        refine ⟨_, _, ev', fun K hK => by simp only [bor0, hg, heq] at hK; exact hK, fun j hj => List.mem_cons_of_mem _ hj, fun j hj => ?_, fun j hj => (by simp [AV.ids0] at hj), fun {I w m σ cv} hH ha hv => ?_⟩
        · rcases List.mem_cons.1 hj with rfl | h
          · exact .inr ⟨by simp [AV.ids0], .inr ⟨l, hg⟩⟩
          · exact .inl h
        · obtain ⟨b, h1, h2⟩ := h (hH.obj i _ (by rw [ha i (by simp [AV.ids0]), hg]))
          obtain ⟨b', cap, h3, rfl, h4, h5, h6⟩ := hv
          rw [h1] at h3; cases h3
          exact ⟨_, n, cap, rfl, RS_ea.2 ⟨hlen.symm, h4, h5, fun _ => ⟨b, off, rfl, .inr ⟨i, by simp, h1⟩, EA.mono (fun _ h => .inl h) (fun _ _ => rfl) h2⟩⟩⟩
      | _ => simp only [bor0, hg] at ev
  | _ => exact keep (fun K => rfl) ev
theorem borL0_sound {st : Store} : ∀ {l : List AV} {js : List Nat} {K0 : List AV → List Nat → Prop}, borL0 st l js K0 → ∃ l' js', K0 l' js' ∧ (∀ K, borL0 st l js K → K l' js') ∧ (∀ i ∈ js, i ∈ js') ∧ (∀ i ∈ js', i ∈ js ∨ (i ∈ idsL0 l ∧ Lent st i)) ∧ (∀ i ∈ idsL0 l', i ∈ idsL0 l) ∧
    ∀ {I : Nat → Prop} {w : World} {m : M} {σ : Sto} {cs : List Value}, HRel I w m σ → (∀ i ∈ idsL0 l, σ i = st.get i) → RVL0 I w m l cs → RVL0 (Ib I m js') w m l' cs
  | [], js, K0, ev => ⟨[], js, ev, fun K h => h, fun i hi => hi, fun i hi => .inl hi, fun i hi => hi, fun {I w m σ cs} _ _ h => by cases cs with | nil => trivial | cons => exact h.elim⟩
  | v :: r, js, K0, ev => by
    simp only [borL0] at ev
    obtain ⟨v', js1, ev1, h1, h2, h3, h4, h5⟩ := bor0_sound ev
    obtain ⟨r', js2, ev2, k1, k2, k3, k4, k5⟩ := borL0_sound ev1
    have hids : idsL0 (v :: r) = v.ids0 ++ idsL0 r := by simp [idsL0]
    refine ⟨v' :: r', js2, ev2, fun K h => by simp only [borL0] at h; exact k1 _ (h1 _ h), fun i hi => k2 i (h2 i hi), fun i hi => ?_, fun i hi => ?_, fun {I w m σ cs} hH ha hv => ?_⟩
    · rw [hids]
      rcases k3 i hi with h | ⟨h, h'⟩
      · rcases h3 i h with h | ⟨h, h'⟩
        · exact .inl h
        · exact .inr ⟨List.mem_append.2 (.inl h), h'⟩
      · exact .inr ⟨List.mem_append.2 (.inr h), h'⟩
    · rw [hids]
      have : idsL0 (v' :: r') = v'.ids0 ++ idsL0 r' := by simp [idsL0]
      rw [this] at hi
      exact List.mem_append.2 ((List.mem_append.1 hi).imp (h4 i) (k4 i))
    · rw [hids] at ha
      cases cs with
      | nil => exact hv.elim
      | cons c cs =>
        exact ⟨RV0_mono (Ib.mono k2) (fun _ _ => rfl) m.le_refl _ _ (h5 hH (fun i hi => ha i (List.mem_append.2 (.inl hi))) hv.1), k5 hH (fun i hi => ha i (List.mem_append.2 (.inr hi))) hv.2⟩
theorem bor1_sound {st : Store} {v : AV} {js : List Nat} {K0 : AV → List Nat → Prop} (ev : bor1 st v js K0) : ∃ v' js', K0 v' js' ∧ (∀ K, bor1 st v js K → K v' js') ∧ (∀ i ∈ js, i ∈ js') ∧ (∀ i ∈ js', i ∈ js ∨ (i ∈ v.ids ∧ Lent st i)) ∧ (∀ i ∈ v'.ids, i ∈ v.ids) ∧
    ∀ {I : Nat → Prop} {w : World} {m : M} {σ : Sto} {cv : Value}, HRel I w m σ → (∀ i ∈ v.ids, σ i = st.get i) → RV2 I w m v cv → RV2 (Ib I m js') w m v' cv := by
  by_cases ha : ∃ l, v = .agg l
  · obtain ⟨l, rfl⟩ := ha
    simp only [bor1] at ev
    obtain ⟨l', js', e1, e2, e3, e4, e5, e6⟩ := borL0_sound ev
    exact ⟨.agg l', js', e1, fun K h => e2 _ h, e3, e4, e5, fun {I w m σ cv} hH ha hv => by obtain ⟨cs, rfl, hv⟩ := hv; exact ⟨cs, rfl, e6 hH ha hv⟩⟩
  · by_cases hx : (∃ f l c, v = .fn f l c) ∨ ∃ l, v = .tup l
    · have e : ∀ K, bor1 st v js K = K v js := by
        rcases hx with ⟨f, l, c, rfl⟩ | ⟨l, rfl⟩ <;> exact fun K => rfl
      exact ⟨v, js, by rw [e] at ev; exact ev, fun K h => by rw [e] at h; exact h, fun i hi => hi, fun i hi => .inl hi, fun i hi => hi, fun {I w m σ cv} _ _ hv => RV2_mono (fun _ h => .inl h) (fun _ _ => rfl) m.le_refl _ _ hv⟩
    · have e : ∀ K, bor1 st v js K = bor0 st v js K := fun K => by
        cases v <;> first | rfl | exact absurd ⟨_, rfl⟩ ha
      rw [e] at ev
      obtain ⟨v', js', e1, e2, e3, e4, e5, e6⟩ := bor0_sound ev
      have hv0 : v.ids = v.ids0 := by
        obtain ⟨q1, _⟩ := ids1_of (v := v) (fun l e => ha ⟨l, e⟩) id
        obtain ⟨q2, _⟩ := ids2_of (v := v) (fun f l c e => hx (.inl ⟨f, l, c, e⟩)) (fun l e => hx (.inr ⟨l, e⟩)) id
        rw [q2, q1]
      have hv' : v'.ids = v'.ids0 ∧ ∀ {I : Nat → Prop} {w : World} {m : M} {cv : Value}, RV0 I w m v' cv → RV2 I w m v' cv := by
        refine ⟨?_, fun h => RV2_of (RV1_of h)⟩
        have h2 := e2 (fun v' js' => v'.ids = v'.ids0)
        apply h2
        have hok : ∀ q, bor0 st v js q → bor0 st v js fun v' _ => v'.ids = v'.ids0 := fun q hq => by
          cases v with
          | own i =>
            simp only [bor0] at hq ⊢
            split at hq <;> simp_all [AV.ids, AV.ids1]
          | view i off n =>
            simp only [bor0] at hq ⊢
            split at hq
            · exact need_of (need_both hq).1 fun _ => rfl
            · exact hq.elim
          | bview i off n t =>
            simp only [bor0] at hq ⊢
            split at hq
            · unfold bviewK at hq ⊢
              split at hq
              · split at hq <;> simp_all [AV.ids, AV.ids1]
              · exact hq.elim
            · exact hq.elim
          | agg l => exact absurd ⟨l, rfl⟩ ha
          | fn f l c => exact absurd (.inl ⟨f, l, c, rfl⟩) hx
          | tup l => exact absurd (.inr ⟨l, rfl⟩) hx
          | _ => rfl
        exact hok _ ev
      refine ⟨v', js', e1, fun K h => by rw [e] at h; exact e2 _ h, e3, by rw [hv0]; exact e4, by rw [hv0, hv'.1]; exact e5, fun {I w m σ cv} hH hag hv => ?_⟩
      rw [hv0] at hag
      rcases RV2_cases hv with h | ⟨f, l, c, _, _, rfl, _⟩
      · rcases RV1_cases h with h | ⟨l, _, rfl, _⟩
        · exact hv'.2 (e6 hH hag h)
        · exact absurd ⟨l, rfl⟩ ha
      · exact absurd (.inl ⟨f, l, c, rfl⟩) hx
theorem borL1_sound {st : Store} : ∀ {l : List AV} {js : List Nat} {K0 : List AV → List Nat → Prop}, borL1 st l js K0 → ∃ l' js', K0 l' js' ∧ (∀ K, borL1 st l js K → K l' js') ∧ (∀ i ∈ js, i ∈ js') ∧ (∀ i ∈ js', i ∈ js ∨ (i ∈ l.flatMap AV.ids ∧ Lent st i)) ∧ (∀ i ∈ l'.flatMap AV.ids, i ∈ l.flatMap AV.ids) ∧
    ∀ {I : Nat → Prop} {w : World} {m : M} {σ : Sto} {cs : List Value}, HRel I w m σ → (∀ i ∈ l.flatMap AV.ids, σ i = st.get i) → RVL2 I w m l cs → RVL2 (Ib I m js') w m l' cs
  | [], js, K0, ev => ⟨[], js, ev, fun K h => h, fun i hi => hi, fun i hi => .inl hi, fun i hi => hi, fun {I w m σ cs} _ _ h => by cases cs with | nil => trivial | cons => exact h.elim⟩
  | v :: r, js, K0, ev => by
    simp only [borL1] at ev
    obtain ⟨v', js1, ev1, h1, h2, h3, h4, h5⟩ := bor1_sound ev
    obtain ⟨r', js2, ev2, k1, k2, k3, k4, k5⟩ := borL1_sound ev1
    simp only [List.flatMap_cons]
    refine ⟨v' :: r', js2, ev2, fun K h => by simp only [borL1] at h; exact k1 _ (h1 _ h), fun i hi => k2 i (h2 i hi), fun i hi => ?_, fun i hi => ?_, fun {I w m σ cs} hH ha hv => ?_⟩
    · rcases k3 i hi with h | ⟨h, h'⟩
      · rcases h3 i h with h | ⟨h, h'⟩
        · exact .inl h
        · exact .inr ⟨List.mem_append.2 (.inl h), h'⟩
      · exact .inr ⟨List.mem_append.2 (.inr h), h'⟩
    · simp only [List.flatMap_cons] at hi
      exact List.mem_append.2 ((List.mem_append.1 hi).imp (h4 i) (k4 i))
    · cases cs with
      | nil => exact hv.elim
      | cons c cs =>
        exact ⟨RV2_mono (Ib.mono k2) (fun _ _ => rfl) m.le_refl _ _ (h5 hH (fun i hi => ha i (List.mem_append.2 (.inl hi))) hv.1), k5 hH (fun i hi => ha i (List.mem_append.2 (.inr hi))) hv.2⟩
end Go.Eng
