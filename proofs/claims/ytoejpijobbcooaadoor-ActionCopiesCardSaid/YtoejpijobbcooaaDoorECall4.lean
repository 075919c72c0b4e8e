/- A call by a function's summary: as an operation. No condition. -/
import Derived.Test.YtoejpijobbcooaaDoorECall3
namespace Go.Eng
set_option linter.unusedVariables false
set_option linter.unusedSimpArgs false
open Go.RowKit
theorem look_sub (i : Nat) (ρ : List Nat) : look i ρ fun _ ρ' => ∀ k ∈ ρ', k ∈ ρ ∨ k = i := by
  unfold look
  split
  · exact fun k hk => .inl hk
  · intro k hk
    rcases List.mem_append.1 hk with h | h
    · exact .inl h
    · exact .inr (by simpa using h)
theorem look_mono {i : Nat} {ρ : List Nat} {p q : Nat → List Nat → Prop} (h : ∀ j ρ', p j ρ' → q j ρ') (hp : look i ρ p) : look i ρ q := by
  unfold look at hp ⊢
  split <;> rename_i e <;> rw [e] at hp <;> exact h _ _ hp
theorem can0_sub (v : AV) (ρ : List Nat) : can0 v ρ fun _ ρ' => ∀ k ∈ ρ', k ∈ ρ ∨ k ∈ v.ids0 := by
  have hl : ∀ (i : Nat) (f : Nat → AV), look i ρ fun _ ρ' => ∀ k ∈ ρ', k ∈ ρ ∨ k ∈ [i] := fun i f =>
    look_mono (fun _ ρ' h k hk => (h k hk).imp id fun e => by simp [e]) (look_sub i ρ)
  cases v with
  | ptr i o => exact hl i fun j => .ptr j o
  | own i => exact hl i fun j => .own j
  | view i o n => exact hl i fun j => .own j
  | rptr i k o => exact hl i fun j => .own j
  | mapv i => exact hl i fun j => .own j
  | bview i o n t => exact hl i fun j => .own j
  | _ => exact fun k hk => .inl hk
theorem canL0_sub : ∀ (l : List AV) (ρ : List Nat), canL0 l ρ fun _ ρ' => ∀ k ∈ ρ', k ∈ ρ ∨ k ∈ idsL0 l
  | [], ρ => fun k hk => .inl hk
  | v :: r, ρ => by
    obtain ⟨v', ρ1, h1, _⟩ := can0_eq v ρ 0
    have hs := can0_sub v ρ
    rw [h1] at hs
    obtain ⟨r', ρ2, k1, _⟩ := canL0_eq 0 r ρ1
    have ks := canL0_sub r ρ1
    rw [k1] at ks
    simp only [canL0, h1, k1]
    intro k hk
    have e : idsL0 (v :: r) = v.ids0 ++ idsL0 r := by simp [idsL0]
    rw [e, List.mem_append]
    rcases ks k hk with h | h
    · exact (hs k h).imp id .inl
    · exact .inr (.inr h)
theorem can1_sub (v : AV) (ρ : List Nat) : can1 v ρ fun _ ρ' => ∀ k ∈ ρ', k ∈ ρ ∨ k ∈ v.ids1 := by
  have h0 := can0_sub v ρ
  cases v with
  | agg l =>
    obtain ⟨l', ρ1, h1, _⟩ := canL0_eq 0 l ρ
    have hs := canL0_sub l ρ
    rw [h1] at hs
    simp only [can1, h1]; exact hs
  | _ => exact h0
theorem canL1_sub : ∀ (l : List AV) (ρ : List Nat), canL1 l ρ fun _ ρ' => ∀ k ∈ ρ', k ∈ ρ ∨ k ∈ idsL1 l
  | [], ρ => fun k hk => .inl hk
  | v :: r, ρ => by
    obtain ⟨v', ρ1, h1, _⟩ := can1_eq v ρ 0
    have hs := can1_sub v ρ
    rw [h1] at hs
    obtain ⟨r', ρ2, k1, _⟩ := canL1_eq 0 r ρ1
    have ks := canL1_sub r ρ1
    rw [k1] at ks
    simp only [canL1, h1, k1]
    intro k hk
    have e : idsL1 (v :: r) = v.ids1 ++ idsL1 r := by simp [idsL1]
    rw [e, List.mem_append]
    rcases ks k hk with h | h
    · exact (hs k h).imp id .inl
    · exact .inr (.inr h)
theorem can2_sub (v : AV) (ρ : List Nat) : can2 v ρ fun _ ρ' => ∀ k ∈ ρ', k ∈ ρ ∨ k ∈ v.ids := by
  have h0 := can1_sub v ρ
  cases v with
  | fn f l c =>
    obtain ⟨l', ρ1, h1, _⟩ := canL1_eq 0 l ρ
    have hs := canL1_sub l ρ
    rw [h1] at hs
    obtain ⟨c', ρ2, k1, _⟩ := canL1_eq 0 c ρ1
    have ks := canL1_sub c ρ1
    rw [k1] at ks
    simp only [can2, h1, k1]
    intro k hk
    simp only [AV.ids, List.mem_append]
    rcases ks k hk with h | h
    · exact (hs k h).imp id .inl
    · exact .inr (.inr h)
  | tup l =>
    obtain ⟨l', ρ1, h1, _⟩ := canL1_eq 0 l ρ
    have hs := canL1_sub l ρ
    rw [h1] at hs
    simp only [can2, h1]; exact hs
  | _ => exact h0
theorem canL2_sub : ∀ (l : List AV) (ρ : List Nat), canL2 l ρ fun _ ρ' => ∀ k ∈ ρ', k ∈ ρ ∨ k ∈ l.flatMap AV.ids
  | [], ρ => fun k hk => .inl hk
  | v :: r, ρ => by
    obtain ⟨v', ρ1, h1, _⟩ := can2_eq v ρ 0
    have hs := can2_sub v ρ
    rw [h1] at hs
    obtain ⟨r', ρ2, k1, _⟩ := canL2_eq 0 r ρ1
    have ks := canL2_sub r ρ1
    rw [k1] at ks
    simp only [canL2, h1, k1]
    intro k hk
    rw [List.flatMap_cons, List.mem_append]
    rcases ks k hk with h | h
    · exact (hs k h).imp id .inl
    · exact .inr (.inr h)
/-- Numbers that lead to no others. -/
def Closed (st : Store) (F : Nat → Prop) : Prop := ∀ i, F i → ∀ l, st.get i = some (.box l) → ∀ j ∈ idsL0 l, F j
theorem canSt_sub {st : Store} {F : Nat → Prop} (hF : Closed st F) : ∀ (n j : Nat) (ρ : List Nat) (K : List Obj → List Nat → Prop), (∀ i ∈ ρ, F i) → canSt st n j ρ K → canSt st n j ρ fun _ ρ' => ∀ i ∈ ρ', F i
  | 0, _, _, _, _, h => h
  | n + 1, j, ρ, K, hρ, h => by
    unfold canSt at h ⊢
    cases hd : ρ.drop j with
    | nil => exact hρ
    | cons i r =>
      rw [hd] at h
      have hi : F i := hρ i (List.mem_of_mem_drop (by rw [hd]; exact List.mem_cons_self ..))
      cases hg : st.get i with
      | none => simp only [hg] at h
      | some o =>
        simp only [hg] at h ⊢
        have keep : ∀ {o' : Obj}, canSt st n (j + 1) ρ (fun l ρ => K (o' :: l) ρ) → canSt st n (j + 1) ρ fun _ ρ' => ∀ i ∈ ρ', F i := fun {o'} h => canSt_sub hF n (j + 1) ρ _ hρ h
        cases o with
        | box l =>
          simp only [canObj, nrmL0_eq] at h ⊢
          obtain ⟨l', ρ1, h1, _⟩ := canL0_eq 0 (l.map nrmF0) ρ
          have hs := canL0_sub (l.map nrmF0) ρ
          rw [h1] at hs h ⊢
          refine canSt_sub hF n (j + 1) ρ1 _ (fun k hk => ?_) h
          rcases hs k hk with h | h
          · exact hρ k h
          · rw [idsL0_nrm] at h; exact hF i hi l hg k h
        | dead => exact keep h
        | row fz t x => exact keep h
        | map q kt vt l => exact keep h
        | iter s p => exact keep h
theorem opds_rv {I : Nat → Prop} {w : World} {m : M} {fr : Frame} {a : Act} {L : List Opd} (hf : FOn L fr I w m a) : ∀ {xs : List Operand} {ys : List Opd}, opdsOk xs ys = true → (∀ y ∈ ys, y ∈ L) →
    ∀ i (h : i < (ys.map (Opd.ev fr)).length) (h' : i < (xs.map a.eval).length), RV I w m (ys.map (Opd.ev fr))[i] (xs.map a.eval)[i]
  | [], [], _, _ => fun i h => by simp at h
  | x :: xs, y :: ys, h, hL => fun i h1 h2 => by
    simp only [opdsOk, Bool.and_eq_true] at h
    cases i with
    | zero => exact hf.rv (hL y (by simp)) h.1
    | succ i => exact opds_rv hf h.2 (fun y hy => hL y (by simp [hy])) i (by simpa using h1) (by simpa using h2)
  | [], _ :: _, h, _ => by cases h
  | _ :: _, [], h, _ => by cases h
/-- Rows that come to be read only. -/
def flipB (st st1 : Store) (i : Nat) : Bool := match st.get i with
  | some (.row false _ _) => match st1.get i with | some (.row true _ _) => true | _ => false
  | _ => false
/-- As MOK; of what is there only what is flipped is touched, unless more may be. -/
def MOK2 (P : Program) (o : Oper) (L : List Opd) (fr : Frame) (F : Nat → Prop) (wr : Bool) (st : Store) (nx : Nat) (K : AV → Store → Nat → Prop) : Prop :=
  ∃ v st1 nx' T, nx ≤ nx' ∧ K v st1 nx' ∧ (∀ i, i ∉ T → st1.get i = st.get i) ∧ (∀ i ∈ T, (F i ∧ st.get i ≠ none ∧ (wr = true ∨ st1.get i = st.get i ∨ flipB st st1 i = true)) ∨ (nx ≤ i ∧ i < nx')) ∧
    ∀ {X0 : Bool → Nat → Prop} {I0 : Nat → Prop} {w0 : World} {σ : Sto} {I : Nat → Prop} {w : World} {m : M} {a : Act}, FOn L fr I w m a → HS X0 I0 w0 σ I w m → (∀ i, F i → σ i = st.get i) → (∀ i, nx ≤ i → i < nx' → ¬ m.used i) →
      OpRun P o a w (Good X0 I0 w0 I w m (upd σ T st1) v nx nx')
theorem MOK2.of {P : Program} {o : Oper} {L : List Opd} {fr : Frame} {F : List Nat} {F' : Nat → Prop} {wr wr' : Bool} {st : Store} {nx : Nat} {K : AV → Store → Nat → Prop} (h : MOK P o L fr F wr st nx K) (hF : ∀ i ∈ F, F' i) (hw : wr = true → wr' = true) : MOK2 P o L fr F' wr' st nx K := by
  obtain ⟨v, st1, nx', T, h1, h2, h3, h4, h5⟩ := h
  exact ⟨v, st1, nx', T, h1, h2, h3, fun i hi => (h4 i hi).imp (fun ⟨a, b, c⟩ => ⟨hF i b, c, .inl (hw a)⟩) id, fun hf hs ha hN => h5 hf hs (fun i hi => ha i (hF i hi)) hN⟩
theorem ren0_ni (g : Nat → Nat) (u : AV) : (ren0 g u).ni0 = u.ni0 := by cases u <;> rfl
theorem allB_ren0 (g : Nat → Nat) : ∀ l : List AV, allB AV.ni0 (l.map (ren0 g)) = allB AV.ni0 l
  | [] => rfl
  | a :: r => by simp only [List.map_cons, allB, ren0_ni, allB_ren0 g r]
theorem ren1_ni (g : Nat → Nat) (u : AV) : (ren1 g u).ni1 = u.ni1 := by
  cases u with
  | agg l => exact allB_ren0 g l
  | _ => rfl
theorem allB_ren1 (g : Nat → Nat) : ∀ l : List AV, allB AV.ni1 (l.map (ren1 g)) = allB AV.ni1 l
  | [] => rfl
  | a :: r => by simp only [List.map_cons, allB, ren1_ni, allB_ren1 g r]
theorem ren2_ni (g : Nat → Nat) (u : AV) : (ren2 g u).ni = u.ni := by
  cases u with
  | agg l => exact allB_ren0 g l
  | tup l => exact allB_ren1 g l
  | _ => rfl
theorem and_ni {a b : Bool} (h : bAnd a b = true) : a = true ∧ b = true := by
  cases a with
  | true => exact ⟨rfl, h⟩
  | false => cases h
/-- What a call does, ahead of any memory. -/
structure Told (ρ js : List Nat) (nx : Nat) (st : Store) (objs : List Obj) (v : AV) (objs' : List Obj) (K : AV → Store → Nat → Prop) (wr : Bool) : Prop where
  le : objs.length ≤ objs'.length
  ex : ∃ (st1 : Store) (T Jf : List Nat), K (ren2 (un ρ nx) v) st1 (nx + (objs'.length - objs.length)) ∧ (∀ i, i ∉ T → st1.get i = st.get i) ∧
    (∀ i ∈ T, ((i ∈ ρ ∨ i ∈ js) ∧ (wr = true ∨ st1.get i = st.get i ∨ flipB st st1 i = true)) ∨ (nx ≤ i ∧ i < nx + (objs'.length - objs.length))) ∧
    ((Jf = js) ∨ (Jf = [] ∧ v.ni = true ∧ ∀ o ∈ objs', o.ni = true)) ∧
    (∀ i ∈ Jf, i ∈ T ∧ ∃ fz t x, st.get i = some (.row fz t x) ∧ st1.get i = some (.row true t x)) ∧
    (∀ i, (∀ j, j < objs'.length → i ≠ un ρ nx j) → i ∉ Jf → st1.get i = st.get i) ∧
    (∀ j (h : j < objs'.length), ∃ o', st1.get (un ρ nx j) = some o' ∧ (un ρ nx j ∈ T ∨ (j < ρ.length ∧ st1.get (un ρ nx j) = st.get (un ρ nx j))) ∧ o'.mut = objs'[j].mut ∧ o'.live = objs'[j].live ∧ (∀ t x, o' = .row true t x → objs'[j] = .row true t x) ∧ ∀ (J : Nat → Prop) (u : World) (q : M) i, ObjOk J u q i (renO (un ρ nx) objs'[j]) → ObjOk J u q i o')
section
variable {ρ js : List Nat} {nx : Nat} {st : Store} {objs : List Obj} {v : AV} {objs' : List Obj} {K : AV → Store → Nat → Prop}
theorem back_told (hn : ρ.Nodup) (hl : ∀ i ∈ ρ, i < nx) (hk : objs.length = ρ.length) (hj : ∀ i ∈ js, i ∉ ρ) (hjn : ∀ i ∈ js, i < nx) (ev : backK ρ js nx objs.length st v objs' K) : Told ρ js nx st objs v objs' K true := by
  unfold backK at ev
  cases hle : Nat.ble objs.length objs'.length with
  | false => rw [hle] at ev; exact ev.elim
  | true =>
    rw [hle] at ev
    have hle' := Nat.le_of_ble_eq_true hle
    simp only [un2_eq, unSt_eq] at ev
    obtain ⟨g1, g2⟩ := unS_get hn hl objs' 0 st
    have g1 : ∀ k (h : k < objs'.length), (unS ρ nx 0 objs' st).get (un ρ nx k) = some (renO (un ρ nx) objs'[k]) := fun k h => by have := g1 k h; rwa [Nat.zero_add] at this
    have g2 : ∀ i, (∀ k, k < objs'.length → i ≠ un ρ nx k) → (unS ρ nx 0 objs' st).get i = st.get i := fun i h => g2 i fun k hk => by rw [Nat.zero_add]; exact h k hk
    have him : ∀ k, k < objs'.length → un ρ nx k ∈ (List.range objs'.length).map (un ρ nx) := fun k hk => List.mem_map.2 ⟨k, by simpa using hk, rfl⟩
    have hin : ∀ k, k < objs'.length → un ρ nx k ∈ ρ ∨ (nx ≤ un ρ nx k ∧ un ρ nx k < nx + (objs'.length - objs.length)) := fun k hk => by
      rcases Nat.lt_or_ge k ρ.length with h | h
      · rw [un_lt h]; exact .inl (List.getElem_mem h)
      · rw [un_ge h]; right; omega
    have hjne : ∀ i ∈ js, ∀ k, k < objs'.length → i ≠ un ρ nx k := fun i hi k hk e => by
      rcases hin k hk with h | h
      · exact hj i hi (e ▸ h)
      · have := hjn i hi; omega
    have plain : ∀ (hnil : js = [] ∨ (v.ni = true ∧ ∀ o ∈ objs', o.ni = true)), K (ren2 (un ρ nx) v) (unS ρ nx 0 objs' st) (nx + (objs'.length - objs.length)) → Told ρ js nx st objs v objs' K true := fun hnil ev => by
      refine ⟨hle', _, (List.range objs'.length).map (un ρ nx), [], ev, fun i hi => g2 i fun k hk e => hi (e ▸ him k hk), fun i hi => ?_, ?_, fun i hi => (by cases hi), fun i h1 _ => g2 i h1, fun k hk => ?_⟩
      · obtain ⟨k, hk, rfl⟩ := List.mem_map.1 hi
        exact (hin k (by simpa using hk)).imp (fun h => ⟨.inl h, .inl rfl⟩) id
      · rcases hnil with h | h
        · exact .inl h.symm
        · exact .inr ⟨rfl, h⟩
      · exact ⟨_, g1 k hk, .inl (him k hk), (renO_mut _ _).1, (renO_mut _ _).2, fun t x e => row_ren e, fun _ _ _ _ h => h⟩
    cases js with
    | nil => exact plain (.inl rfl) ev
    | cons j0 jr =>
      simp only [] at ev
      cases hni : bAnd (ren2 (un ρ nx) v).ni (niO objs') with
      | true =>
        rw [hni] at ev
        obtain ⟨n1, n2⟩ := and_ni hni
        rw [ren2_ni] at n1
        exact plain (.inr ⟨n1, niO_all n2⟩) ev
      | false =>
        rw [hni] at ev
        obtain ⟨st1, e1, e2, e3⟩ := frzIds_cases ev
        refine ⟨hle', st1, (List.range objs'.length).map (un ρ nx) ++ (j0 :: jr), j0 :: jr, e1, fun i hi => ?_, fun i hi => ?_, .inl rfl, fun i hi => ⟨List.mem_append.2 (.inr hi), ?_⟩, fun i h1 h2 => ?_, fun k hk => ?_⟩
        · simp only [List.mem_append, not_or] at hi
          rw [e2 i hi.2]; exact g2 i fun k hk e => hi.1 (e ▸ him k hk)
        · rcases List.mem_append.1 hi with hi | hi
          · obtain ⟨k, hk, rfl⟩ := List.mem_map.1 hi
            exact (hin k (by simpa using hk)).imp (fun h => ⟨.inl h, .inl rfl⟩) id
          · exact .inl ⟨.inr hi, .inl rfl⟩
        · obtain ⟨fz, t, x, q1, q2⟩ := e3 i hi
          exact ⟨fz, t, x, by rw [← g2 i (hjne i hi)]; exact q1, q2⟩
        · rw [e2 i h2]; exact g2 i h1
        · refine ⟨renO (un ρ nx) objs'[k], ?_, .inl (List.mem_append.2 (.inl (him k hk))), (renO_mut _ _).1, (renO_mut _ _).2, fun t x e => row_ren e, fun _ _ _ _ h => h⟩
          rw [e2 _ fun h => hjne _ h k hk rfl]; exact g1 k hk
theorem RVL0_unnrm {J : Nat → Prop} {u : World} {q : M} : ∀ {l : List AV} {r : List Value}, RVL0 J u q (l.map nrmF0) r → RVL0 J u q l r
  | [], _, h => h
  | v :: l, [], h => h.elim
  | v :: l, c :: r, h => ⟨by have h1 := h.1; cases v <;> exact h1, RVL0_unnrm h.2⟩
theorem ObjOk.unnrm {J : Nat → Prop} {u : World} {q : M} {i : Nat} {o o' : Obj} (h : ObjCan nx ρ o o') (k : ObjOk J u q i (renO (un ρ nx) o')) : ObjOk J u q i o := by
  cases o with
  | box l =>
    cases o' with
    | box l' =>
      obtain ⟨b, cs, T, fz, h1, h2, h3, h4⟩ := k
      refine ⟨b, cs, T, fz, h1, h2, h3, ?_⟩
      rw [h.1] at h4
      exact RVL0_unnrm h4
    | _ => exact h.elim
  | dead => trivial
  | row fz t x =>
    cases o' with
    | box l => exact h.elim
    | row fz' t' x' => cases (show _ = _ from h); exact k
    | _ => cases (show _ = _ from h)
  | map q kt vt l =>
    cases o' with
    | box l => exact h.elim
    | map q' kt' vt' l' => cases (show _ = _ from h); exact k
    | _ => cases (show _ = _ from h)
  | iter s p =>
    cases o' with
    | box l => exact h.elim
    | iter s' p' => cases (show _ = _ from h); exact k
    | _ => cases (show _ = _ from h)
theorem ro_told (hn : ρ.Nodup) (hl : ∀ i ∈ ρ, i < nx) (hk : objs.length = ρ.length) (hj : ∀ i ∈ js, i ∉ ρ) (hjn : ∀ i ∈ js, i < nx)
    (hob : ∀ k (h : k < objs.length) (h' : k < ρ.length), ∃ o, st.get ρ[k] = some o ∧ ObjCan nx ρ o objs[k])
    (ev : un2 ρ nx v fun v => roK js nx st v objs K) : Told ρ js nx st objs v objs K false := by
  rw [un2_eq] at ev
  unfold roK at ev
  have hrow : ∀ {o o' : Obj} {t : Ty} {x : List t.den}, ObjCan nx ρ o o' → o = .row true t x → o' = .row true t x := fun {o o' t x} h e => by
    subst e
    cases o' <;> first | exact h.elim | exact (show _ = _ from h).symm
  have hsub : nx + (objs.length - objs.length) = nx := by omega
  have plain : ∀ (hnil : js = [] ∨ (v.ni = true ∧ ∀ o ∈ objs, o.ni = true)), K (ren2 (un ρ nx) v) st nx → Told ρ js nx st objs v objs K false := fun hnil ev => by
    refine ⟨Nat.le_refl _, st, [], [], by rw [hsub]; exact ev, fun i hi => rfl, fun i hi => (by cases hi), ?_, fun i hi => (by cases hi), fun i _ _ => rfl, fun k hk => ?_⟩
    · rcases hnil with h | h
      · exact .inl h.symm
      · exact .inr ⟨rfl, h⟩
    · obtain ⟨o, h1, h2⟩ := hob k hk (by omega)
      refine ⟨o, by rw [un_lt (by omega)]; exact h1, .inr ⟨by omega, rfl⟩, h2.same.1.symm, h2.same.2.symm, fun t x e => hrow h2 e, fun _ _ _ _ h => ObjOk.unnrm h2 h⟩
  cases js with
  | nil => exact plain (.inl rfl) ev
  | cons j0 jr =>
    simp only [] at ev
    cases hni : bAnd (ren2 (un ρ nx) v).ni (niO objs) with
    | true =>
      rw [hni] at ev
      obtain ⟨n1, n2⟩ := and_ni hni
      rw [ren2_ni] at n1
      exact plain (.inr ⟨n1, niO_all n2⟩) ev
    | false =>
      rw [hni] at ev
      obtain ⟨st1, e1, e2, e3⟩ := frzIds_cases ev
      refine ⟨Nat.le_refl _, st1, j0 :: jr, j0 :: jr, by rw [hsub]; exact e1, e2, fun i hi => .inl ⟨.inr hi, .inr ?_⟩, .inl rfl, fun i hi => ⟨hi, e3 i hi⟩, fun i _ h2 => e2 i h2, fun k hk => ?_⟩
      · obtain ⟨fz, t, x, q1, q2⟩ := e3 i hi
        cases fz with
        | true => exact .inl (q2.trans q1.symm)
        | false => right; unfold flipB; rw [q1, q2]
      · obtain ⟨o, h1, h2⟩ := hob k hk (by omega)
        have hne : un ρ nx k ∉ j0 :: jr := fun h => hj _ h (by rw [un_lt (by omega)]; exact List.getElem_mem _)
        refine ⟨o, by rw [e2 _ hne, un_lt (by omega)]; exact h1, .inr ⟨by omega, e2 _ hne⟩, h2.same.1.symm, h2.same.2.symm, fun t x e => hrow h2 e, fun _ _ _ _ h => ObjOk.unnrm h2 h⟩
end
theorem ObjCan.loc {I : Nat → Prop} {w : World} {m : M} {ρ js : List Nat} {nx i : Nat} {o o' : Obj} (h' : i < ρ.length) (hc : ObjCan nx ρ o o') (hok : ObjOk I w m ρ[i] o) : ObjOk (Ib I m js) w (locM m ρ nx) i o' := by
  have huse : ∀ j, j < ρ.length → Un (locM m ρ nx) m (un ρ nx) j := fun j hj => ⟨hj, rfl, rfl, rfl, rfl⟩
  have ub : (locM m ρ nx).blk i = m.blk ρ[i] := by simp only [locM, un_lt h']
  cases o with
  | box l =>
    cases o' with
    | box l' =>
      obtain ⟨b, cs, T, fz, h1, h2, h3, h4⟩ := hok
      refine ⟨b, cs, T, fz, by rw [ub]; exact h1, h2, h3, ?_⟩
      have h5 := RVL0_nrm h4
      rw [← hc.1] at h5
      exact RVL0_mono (fun _ h => .inl h) (fun _ _ => rfl) (M.le_refl _) _ _ (RVL0_unren (fun j hj => huse j (hc.2 j hj)) h5)
    | _ => exact hc.elim
  | dead =>
    cases o' with
    | dead => trivial
    | box l => exact hc.elim
    | _ => cases (show _ = _ from hc)
  | row fz t x =>
    cases o' with
    | box l => exact hc.elim
    | row fz' t' x' =>
      cases (show _ = _ from hc)
      obtain ⟨h1, h2, h3, h4, h5⟩ := hok
      refine ⟨by simp only [locM, un_lt h']; exact h1, by simp only [locM, un_lt h']; exact h2, by simp only [locM, un_lt h']; exact h3, by simp only [locM, un_lt h']; exact h4, ?_⟩
      simp only [locM, un_lt h']
      exact h5.imp id fun ⟨b, cs, T, f, h6, h7, h8, h9, h10⟩ => ⟨b, cs, T, f, h6, h7, h8, h9, h10.mono (fun _ h => .inl h) (fun _ _ => rfl)⟩
    | _ => cases (show _ = _ from hc)
  | map q kt vt l =>
    cases o' with
    | box l => exact hc.elim
    | map q' kt' vt' l' =>
      cases (show _ = _ from hc)
      obtain ⟨b, es, c, h1, h2, h3⟩ := hok
      exact ⟨b, es, c, by rw [ub]; exact h1, h2, h3.mono (fun _ h => .inl h) (fun _ _ => rfl)⟩
    | _ => cases (show _ = _ from hc)
  | iter s p =>
    cases o' with
    | box l => exact hc.elim
    | iter s' p' =>
      cases (show _ = _ from hc)
      obtain ⟨b, t, h1, h2, h3⟩ := hok
      exact ⟨b, t, by rw [ub]; exact h1, h2, h3⟩
    | _ => cases (show _ = _ from hc)
/-- What is handed to a call, as the function finds it. -/
theorem call_HRel {I : Nat → Prop} {w : World} {m : M} {σ : Sto} {ρ js : List Nat} {nx : Nat} {objs : List Obj} (H : HRel I w m σ) (hnod : ρ.Nodup) (hk : objs.length = ρ.length)
    (hob : ∀ k (h : k < objs.length) (h' : k < ρ.length), ∃ o, σ ρ[k] = some o ∧ ObjCan nx ρ o objs[k])
    (hj1 : ∀ i ∈ js, i ∉ ρ) (hj2 : ∀ i ∈ js, ∃ o, σ i = some o ∧ o.live = true) : HRel (Ib I m js) w (locM m ρ nx) (ofL objs) := by
  have get : ∀ {i o}, ofL objs i = some o → ∃ (h : i < objs.length) (h' : i < ρ.length), objs[i] = o := fun {i o} e => by
    unfold ofL at e
    obtain ⟨h, e⟩ := List.getElem?_eq_some_iff.1 e
    exact ⟨h, by omega, e⟩
  have ub : ∀ {i} (h : i < ρ.length), (locM m ρ nx).blk i = m.blk ρ[i] := fun {i} h => by simp only [locM, un_lt h]
  have hObj : ∀ i o, ofL objs i = some o → ObjOk (Ib I m js) w (locM m ρ nx) i o := fun i o e => by
    obtain ⟨h, h', rfl⟩ := get e
    obtain ⟨o, ho, hc⟩ := hob i h h'
    exact hc.loc h' (H.obj _ o ho)
  refine ⟨fun i hi => ?_, hObj, fun i j o o' b e e' hl hl' hb hb' => ?_, fun i o b e hm hb hI => ?_, fun i t x b e hb => ?_, fun b hb => ?_⟩
  · cases e : ofL objs i with
    | none => exact absurd e hi
    | some o => obtain ⟨_, h, _⟩ := get e; exact h
  · obtain ⟨h, h', rfl⟩ := get e
    obtain ⟨k, k', rfl⟩ := get e'
    obtain ⟨o1, q1, q2⟩ := hob i h h'
    obtain ⟨o2, q3, q4⟩ := hob j k k'
    rw [ub h'] at hb; rw [ub k'] at hb'
    have := H.inj _ _ o1 o2 b q1 q3 (by rw [← q2.same.2]; exact hl) (by rw [← q4.same.2]; exact hl') hb hb'
    rcases Nat.lt_trichotomy i j with hij | hij | hij
    · exact absurd this ((List.pairwise_iff_getElem.1 hnod) i j h' k' hij)
    · exact hij
    · exact absurd this.symm ((List.pairwise_iff_getElem.1 hnod) j i k' h' hij)
  · obtain ⟨h, h', rfl⟩ := get e
    obtain ⟨o1, q1, q2⟩ := hob i h h'
    rw [ub h'] at hb
    rcases hI with hI | ⟨j, hj, hbj⟩
    · exact H.notI _ o1 b q1 (by rw [← q2.same.1]; exact hm) hb hI
    · obtain ⟨o2, q3, q4⟩ := hj2 j hj
      have := H.inj _ _ o1 o2 b q1 q3 (by rw [← q2.same.2]; exact mut_live hm) q4 hb hbj
      exact hj1 j hj (this ▸ List.getElem_mem h')
  · obtain ⟨h, h', e'⟩ := get e
    obtain ⟨o1, q1, q2⟩ := hob i h h'
    rw [ub h'] at hb
    rw [e'] at q2
    have : o1 = .row true t x := by cases o1 <;> first | exact q2.elim | exact (show _ = _ from q2)
    subst this
    exact .inl (H.isI _ t x b q1 hb)
  · rcases hb with hb | ⟨i, hi, hb⟩
    · exact H.Ilt b hb
    · obtain ⟨o, q1, q2⟩ := hj2 i hi
      exact (H.obj i o q1).lt q2 hb
theorem exec_call {P : Program} {o : Oper} {a : Act} {w : World} {g : Operand} {f : FuncId} {fs cs : Array Value} {args : Array Operand} {ts : Array TypeId} (ho : o.op = .call ⟨.value g, args, ts⟩) (hg : a.eval g = .func (.func f) fs cs) (hc : Callable P f) :
    (execOp a.eval o).run P w = .ok (.enter f (fs ++ args.map a.eval ++ cs)) w := by
  obtain ⟨fn, h1, h2, h3⟩ := hc
  unfold execOp
  rw [ho]
  have h2' : ¬ fn.name = "runtime.NumGoroutine" := by simpa using h2
  have h3' : ¬ fn.body = none := by intro e; rw [e] at h3; cases h3
  simp [resolve, hg, Deferred.ofValue, invoke, callFunc, h1, h2', h3']
theorem RVL1_len {I : Nat → Prop} {w : World} {m : M} : ∀ {l : List AV} {r : List Value}, RVL1 I w m l r → l.length = r.length ∧ ∀ i (h : i < l.length) (h' : i < r.length), RV1 I w m l[i] r[i]
  | [], [], _ => ⟨rfl, fun i h => by simp at h⟩
  | a :: l, v :: r, h => by
    obtain ⟨h1, h2⟩ := RVL1_len h.2
    refine ⟨by simp [h1], fun i h3 h4 => ?_⟩
    cases i with
    | zero => exact h.1
    | succ i => exact h2 i (by simpa using h3) (by simpa using h4)
  | [], _ :: _, h => h.elim
  | _ :: _, [], h => h.elim
def RVs (I : Nat → Prop) (w : World) (m : M) (l : List AV) (r : List Value) : Prop := l.length = r.length ∧ ∀ i (h : i < l.length) (h' : i < r.length), RV I w m l[i] r[i]
theorem RVs.append {I : Nat → Prop} {w : World} {m : M} {l l' : List AV} {r r' : List Value} (h : RVs I w m l r) (k : RVs I w m l' r') : RVs I w m (l ++ l') (r ++ r') := by
  refine ⟨by simp [h.1, k.1], fun i h1 h2 => ?_⟩
  by_cases hi : i < l.length
  · rw [List.getElem_append_left hi, List.getElem_append_left (by have := h.1; omega)]; exact h.2 i hi (by have := h.1; omega)
  · rw [List.getElem_append_right (by omega), List.getElem_append_right (by have := h.1; omega)]
    simp only [List.length_append] at h1 h2
    have e := h.1
    have := k.2 (i - l.length) (by omega) (by omega)
    simp only [e] at this ⊢; exact this
def callWr (Γ : Env) : AV → Bool
  | .fn f _ _ => match Γ.get f with | some (.ro _) => false | _ => true
  | _ => true
section
variable {P : Program} {Γ : Env} {o : Oper} {fr : Frame} {F : Nat → Prop} {st : Store} {nx : Nat} {K : AV → Store → Nat → Prop}
/-- A call, told ahead of any memory. -/
theorem callG_told {P : Program} {f : FuncId} {s : SumK} {args : List AV} {js : List Nat} (hS : SoundS P f s.sum) (hst : ∀ i, st.get i ≠ none → i < nx) (hF : Closed st F) (hargs : ∀ i ∈ args.flatMap AV.ids, F i) (hjn : ∀ i ∈ js, i < nx)
    (ev : callG s args js st nx K) : ∃ largs ρ objs v objs' wr, largs.map (ren2 (un ρ nx)) = args ∧ (∀ j ∈ largs.flatMap AV.ids, j < ρ.length) ∧ ρ.Nodup ∧ (∀ i ∈ ρ, F i ∧ i < nx) ∧ objs.length = ρ.length ∧
      (∀ k (h : k < objs.length) (h' : k < ρ.length), ∃ o, st.get ρ[k] = some o ∧ ObjCan nx ρ o objs[k]) ∧ (∀ i ∈ js, i ∉ ρ) ∧ s.sum largs objs (fun v' o' => v' = v ∧ o' = objs') ∧ Told ρ js nx st objs v objs' K wr ∧ (wr = true → ∃ S, s = .rw S) := by
  unfold callG at ev
  obtain ⟨largs, ρ1, h1, h2, h3, h4⟩ := canL2_eq nx args []
  have hs1 := canL2_sub args []
  rw [h1] at ev hs1
  have hs2 := canSt_sub hF 1000 0 ρ1 _ (fun i hi => by rcases hs1 i hi with h | h; · cases h
                                                       · exact hargs i h) ev
  rcases canSt_cases st nx 1000 0 ρ1 (Nat.zero_le _) with h | ⟨objs, ρ, k1, k2, k3, k4⟩
  · exact absurd ev (h _)
  · rw [k1] at ev hs2
    rw [Nat.zero_add] at k3
    have k4 : ∀ k (h : k < objs.length) (h' : k < ρ.length), ∃ o, st.get ρ[k] = some o ∧ ObjCan nx ρ o objs[k] := fun k h h' => by
      have := k4 k h (by omega)
      simpa only [Nat.zero_add] using this
    have hnod : ρ.Nodup := (h2.trans k2).nodup List.nodup_nil
    have hlt : ∀ i ∈ ρ, i < nx := fun i hi => by
      obtain ⟨k, hk, rfl⟩ := List.mem_iff_getElem.1 hi
      obtain ⟨o, ho, _⟩ := k4 k (by omega) hk
      exact hst _ (by rw [ho]; intro h; cases h)
    have hargs' : largs.map (ren2 (un ρ nx)) = args := by
      rw [← h3]
      refine List.map_congr_left fun v hv => ren2_congr fun j hj => k2.un (h4 j (List.mem_flatMap.2 ⟨v, hv, hj⟩))
    have hids : ∀ j ∈ largs.flatMap AV.ids, j < ρ.length := fun j hj => Nat.lt_of_lt_of_le (h4 j hj) k2.len
    cases hd : disj js ρ with
    | false => rw [hd] at ev; exact ev.elim
    | true =>
      rw [hd] at ev
      have hdj := disj_of hd
      have hj := fun i hi => hdj i hi
      cases s with
      | ro S =>
        obtain ⟨v, o', ⟨hK, rfl⟩, hu⟩ := hS.2.1 (args := largs) (objs := objs) (K := fun v o => (un2 ρ nx v fun v => roK js nx st v objs K) ∧ o = objs) (by simpa [SumK.sum] using ev)
        exact ⟨largs, ρ, _, v, _, false, hargs', hids, hnod, fun i hi => ⟨hs2 i hi, hlt i hi⟩, k3, k4, hj, hu, ro_told hnod hlt k3 hj hjn k4 hK, fun h => (by cases h)⟩
      | rw S =>
        obtain ⟨v, objs', hK, hu⟩ := hS.2.1 ev
        exact ⟨largs, ρ, objs, v, objs', true, hargs', hids, hnod, fun i hi => ⟨hs2 i hi, hlt i hi⟩, k3, k4, hj, hu, back_told hnod hlt k3 hj hjn hK, fun _ => ⟨S, rfl⟩⟩
/-- The numbers that a call is handed. -/
def callIds (f' : Opd) (args' : List Opd) (fr : Frame) : List Nat := match f'.ev fr with
  | .fn _ l c => (l ++ args'.map (·.ev fr) ++ c).flatMap AV.ids
  | _ => []
theorem call_mok {own : Bool} {f' : Opd} {args' : List Opd} (hΓ : EnvOk P Γ) (hst : ∀ i, st.get i ≠ none → i < nx) (hok : opOk P o.op (.call own f' args') = true) (hF : Closed st F) (hfoot : ∀ i ∈ callIds f' args' fr, F i)
    (ev : evOp Γ (.call own f' args') fr st nx K) : MOK2 P o (f' :: args') fr F (callWr Γ (f'.ev fr)) st nx K := by
  simp only [evOp, force_eq] at ev
  split at ev
  · rename_i f first cap hfe
    simp only [opOk] at hok
    split at hok
    · rename_i fo args ts ho
      simp only [Bool.and_eq_true] at hok
      obtain ⟨hf1, hf2⟩ := hok
      rcases nrmL2_cases (first ++ args'.map (·.ev fr) ++ cap) with h | ⟨l', e1, e2, e3⟩
      · exact absurd ev (h _)
      rw [e1] at ev
      cases hg : Γ.get f with
      | none => rw [hg] at ev; exact ev.elim
      | some s =>
        rw [hg] at ev
        simp only [] at ev
        have hS := env_get hΓ hg
        have hlF : ∀ i ∈ l'.flatMap AV.ids, F i := fun i hi => by
          rw [e2] at hi
          exact hfoot i (by simp only [callIds, hfe]; exact hi)
        have key : ∃ args2 js, callG s args2 js st nx K ∧ (∀ i ∈ js, i ∈ l'.flatMap AV.ids ∧ Lent st i) ∧ (∀ i ∈ args2.flatMap AV.ids, i ∈ l'.flatMap AV.ids) ∧
            ∀ {I : Nat → Prop} {w : World} {m : M} {σ : Sto} {cs : List Value}, HRel I w m σ → (∀ i ∈ l'.flatMap AV.ids, σ i = st.get i) → RVL2 I w m l' cs → RVL2 (Ib I m js) w m args2 cs := by
          unfold callK at ev
          cases own with
          | true => exact ⟨l', [], ev, fun i hi => (by cases hi), fun i hi => hi, fun {I w m σ cs} _ _ h => RVL2_mono (fun _ h => .inl h) (fun _ _ => rfl) m.le_refl _ _ h⟩
          | false =>
            obtain ⟨args2, js, q1, _, _, q4, q5, q6⟩ := borL1_sound ev
            exact ⟨args2, js, q1, fun i hi => (q4 i hi).resolve_left (by simp), q5, q6⟩
        obtain ⟨args2, js, ev2, k1, k2, k3⟩ := key
        have hlive : ∀ i ∈ js, ∃ o, st.get i = some o ∧ o.live = true := fun i hi => by
          rcases (k1 i hi).2 with ⟨fz, t, x, h⟩ | ⟨l, h⟩
          · exact ⟨_, h, rfl⟩
          · exact ⟨_, h, rfl⟩
        have hjF : ∀ i ∈ js, F i := fun i hi => hlF i (k1 i hi).1
        have hjn : ∀ i ∈ js, i < nx := fun i hi => by
          obtain ⟨o, ho, _⟩ := hlive i hi
          exact hst i (by rw [ho]; intro h; cases h)
        obtain ⟨largs, ρ, objs, v, objs', wr, t1, t2, t3, t4, t5, t6, t7, t8, t9, t10⟩ := callG_told hS hst hF (fun i hi => hlF i (k2 i hi)) hjn ev2
        obtain ⟨hle, st1, T, Jf, u1, u2, u3, u4, u5, u6, u7⟩ := t9
        have hρs : ∀ i ∈ ρ, st.get i ≠ none := fun i hi => by
          obtain ⟨k, hk, rfl⟩ := List.mem_iff_getElem.1 hi
          obtain ⟨o, ho, _⟩ := t6 k (by omega) hk
          rw [ho]; intro h; cases h
        refine ⟨_, st1, nx + (objs'.length - objs.length), T, Nat.le_add_right _ _, u1, u2, fun i hi => ?_, fun {X0 I0 w0 σ I w m a} hf hs ha hN => ?_⟩
        · rcases u3 i hi with ⟨hm, hw⟩ | h
          · refine .inl ⟨?_, ?_, ?_⟩
            · rcases hm with h | h
              · exact (t4 i h).1
              · exact hjF i h
            · rcases hm with h | h
              · exact hρs i h
              · obtain ⟨o, ho, _⟩ := hlive i h
                rw [ho]; intro h; cases h
            · rcases hw with h | h
              · obtain ⟨S, rfl⟩ := t10 h
                left; simp only [hfe, callWr, hg]
              · exact .inr h
          · exact .inr h
        · -- the run
          have hfv := hf.rv (List.mem_cons_self ..) hf1
          rw [hfe] at hfv
          obtain ⟨fs, cs, hfo, hfs, hcs⟩ := (hfv : ∃ fs cs : Array Value, a.eval fo = .func (.func f) fs cs ∧ RVL1 I w m first fs.toList ∧ RVL1 I w m cap cs.toList)
          have one : ∀ {l : List AV} {r : List Value}, RVL1 I w m l r → RVs I w m l r := fun h => ⟨(RVL1_len h).1, fun i h1 h2 => RV_of (RV2_of ((RVL1_len h).2 i h1 h2))⟩
          have hall : RVs I w m (first ++ args'.map (·.ev fr) ++ cap) (fs.toList ++ args.toList.map a.eval ++ cs.toList) :=
            ((one hfs).append ⟨by simp [opds_len hf2], opds_rv hf hf2 fun y hy => List.mem_cons_of_mem _ hy⟩).append (one hcs)
          have hl' := e3 hall.1 hall.2
          have hagree : ∀ i ∈ l'.flatMap AV.ids, σ i = st.get i := fun i hi => ha i (hlF i hi)
          have hl2 := k3 hs.H hagree hl'
          have hσρ : ∀ i ∈ ρ, σ i = st.get i := fun i hi => ha i (t4 i hi).1
          have hob : ∀ k (h : k < objs.length) (h' : k < ρ.length), ∃ o, σ ρ[k] = some o ∧ ObjCan nx ρ o objs[k] := fun k h h' => by
            rw [hσρ _ (List.getElem_mem h')]; exact t6 k h h'
          have hlive' : ∀ i ∈ js, ∃ o, σ i = some o ∧ o.live = true := fun i hi => by rw [ha i (hjF i hi)]; exact hlive i hi
          have hHl := call_HRel (js := js) (nx := nx) hs.H t3 t5 hob t7 hlive'
          have huse : ∀ j, j < ρ.length → Un (locM m ρ nx) m (un ρ nx) j := fun j hj => ⟨hj, rfl, rfl, rfl, rfl⟩
          rw [← t1] at hl2
          have hl3 := RVL2_unren (fun j hj => huse j (t2 j hj)) hl2
          intro N Q k
          unfold Oper.wp
          rw [exec_call ho hfo hS.1, Oper.upon_enter]
          refine (hS.2.2 (cargs := fs ++ args.map a.eval ++ cs) hHl (by simpa using hl3) (fun i hi => by rw [t5]; exact hi) t8).mono ?_
          rintro e w' ⟨v', cv, objs2, I', m', rfl, ⟨rfl, rfl⟩, hL⟩
          have himg : ∀ i, nx ≤ i → i < nx + (objs2.length - objs.length) → ∃ j, j < objs2.length ∧ i = un ρ nx j := fun i h1 h2 => ⟨ρ.length + (i - nx), by omega, by rw [un_ge (by omega)]; omega⟩
          have hJ : ∀ i ∈ Jf, i ∈ js := fun i hi => by
            rcases u4 with h | ⟨h, _⟩
            · exact h ▸ hi
            · rw [h] at hi; cases hi
          have hIf : ∃ If, (If = I' ∧ Jf = js) ∨ (If = I ∧ Jf = [] ∧ v'.ni = true ∧ ∀ o ∈ objs2, o.ni = true) := by
            rcases u4 with h | ⟨h1, h2, h3⟩
            · exact ⟨I', .inl ⟨rfl, h⟩⟩
            · exact ⟨I, .inr ⟨rfl, h1, h2, h3⟩⟩
          obtain ⟨If, hIf⟩ := hIf
          obtain ⟨r1, r2, r3⟩ := after_call (σ' := upd σ T st1) hs t3 (fun i hi => (t4 i hi).2) t5 (fun j h h' => by
              obtain ⟨o, ho, hc⟩ := hob j h' h
              exact ⟨o, ho, hc.same.1, hc.same.2⟩)
            (fun i h1 h2 => hN i h1 (by omega)) hL hIf t7 (fun i hi => ⟨hjn i hi, hlive' i hi⟩)
            (fun j h => by
              obtain ⟨o', q1, q2, q3, q4, q5, q6⟩ := u7 j h
              refine ⟨o', ?_, q3, q4, q5, q6⟩
              by_cases hT : un ρ nx j ∈ T
              · rw [upd_in hT]; exact q1
              · rw [upd_out hT]
                rcases q2 with q2 | ⟨q2, q7⟩
                · exact absurd q2 hT
                · rw [← q1, q7, un_lt q2]; exact hσρ _ (List.getElem_mem q2))
            (fun i hi => by
              obtain ⟨q1, fz, t, x, q2, q3⟩ := u5 i hi
              exact ⟨fz, t, x, by rw [ha i (hjF i (hJ i hi))]; exact q2, by rw [upd_in q1]; exact q3⟩)
            (fun i h1 h2 => by
              by_cases hT : i ∈ T
              · rw [upd_in hT, u6 i h1 h2]
                rcases u3 i hT with ⟨hm, _⟩ | ⟨h3, h4⟩
                · rcases hm with h | h
                  · exact (hσρ i h).symm
                  · exact (ha i (hjF i h)).symm
                · obtain ⟨j, hj, e⟩ := himg i h3 h4
                  exact absurd e (h1 j hj)
              · exact upd_out hT)
          refine k cv If w' _ ⟨r3, r1, r2, fun i hi => ?_⟩
          rcases hi with h | h
          · exact .inl h
          · exact .inr (by rw [t5]; exact h)
    · cases hok
  · exact ev.elim
end
end Go.Eng
