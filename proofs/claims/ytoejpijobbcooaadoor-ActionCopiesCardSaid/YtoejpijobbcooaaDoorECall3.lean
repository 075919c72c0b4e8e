/- A call does what the function's summary says: the proof. No condition. -/
import Derived.Test.YtoejpijobbcooaaDoorECall2
namespace Go.Eng
set_option linter.unusedVariables false
set_option linter.unusedSimpArgs false
open Go.RowKit
def Callable (P : Program) (f : FuncId) : Prop := ∃ fn, P.funcs[f]? = some fn ∧ (fn.name == "runtime.NumGoroutine") = false ∧ fn.body.isNone = false
def ofL (l : List Obj) : Sto := fun i => l[i]?
/-- What may be written of the things that a call is handed. -/
def XL (m : M) (objs : List Obj) : Nat → Prop := fun b => ∃ i o, objs[i]? = some o ∧ o.mut = true ∧ m.blk i = some b
/-- What a call leaves. -/
structure Left (I : Nat → Prop) (w : World) (m : M) (objs : List Obj) (v : AV) (cv : Value) (objs' : List Obj) (I' : Nat → Prop) (w' : World) (m' : M) : Prop where
  rv : RV I' w' m' v cv
  H : HRel I' w' m' (ofL objs')
  E : Evo I w m I' w' m'
  used : ∀ i, m'.used i → i < objs'.length
  len : objs.length ≤ objs'.length
  fr : Fr (XL m objs) w w'
  new : ∀ b, I' b → I b ∨ w.heap.size ≤ b ∨ XL m objs b
  own : ∀ i o b, objs'[i]? = some o → o.live = true → m'.blk i = some b → w.heap.size ≤ b ∨ ∃ j o', objs[j]? = some o' ∧ o'.live = true ∧ (o.mut = true → o'.mut = true) ∧ m.blk j = some b
/-- A summary that tells one result, ahead of what is asked of it. -/
def Det (S : Sum) : Prop := ∀ {args objs K}, S args objs K → ∃ v objs', K v objs' ∧ S args objs fun v' o' => v' = v ∧ o' = objs'
/-- A summary is true of a function of the model. -/
def SoundS (P : Program) (f : FuncId) (S : Sum) : Prop :=
  Callable P f ∧ Det S ∧ ∀ {I : Nat → Prop} {w : World} {m : M} {args : List AV} {cargs : Array Value} {objs : List Obj} {K : AV → List Obj → Prop},
    HRel I w m (ofL objs) → RVL2 I w m args cargs.toList → (∀ i, m.used i → i < objs.length) → S args objs K →
    Calls P f cargs w fun e w' => ∃ v cv objs' I' m', e = .returned cv ∧ K v objs' ∧ Left I w m objs v cv objs' I' w' m'
def SumK.sum : SumK → Sum
  | .ro S => fun args objs K => S args objs fun v => K v objs
  | .rw S => S
def EnvOk (P : Program) (Γ : Env) : Prop := ∀ x ∈ Γ, SoundS P x.1 x.2.sum
theorem env_get {P : Program} : ∀ {Γ : Env} {f : Nat} {s : SumK}, EnvOk P Γ → Γ.get f = some s → SoundS P f s.sum
  | [], _, _, _, h => by cases h
  | (j, S) :: r, f, s, hΓ, h => by
    unfold Env.get at h
    cases hb : Nat.beq j f with
    | true =>
      rw [hb] at h; cases h
      cases Nat.eq_of_beq_eq_true hb
      exact hΓ (j, S) (by simp)
    | false =>
      rw [hb] at h
      exact env_get (fun x hx => hΓ x (by simp [hx])) h
theorem memB_of {i : Nat} : ∀ {ρ : List Nat}, memB i ρ = false → i ∉ ρ
  | [], _ => by simp
  | j :: r, h => by
    unfold memB at h
    cases hb : Nat.beq j i with
    | true => rw [hb] at h; cases h
    | false =>
      rw [hb] at h
      have hne : j ≠ i := fun e => by subst e; rw [Nat.beq_refl] at hb; cases hb
      simp only [List.mem_cons, not_or]
      exact ⟨fun e => hne e.symm, memB_of h⟩
theorem disj_of : ∀ {js ρ : List Nat}, disj js ρ = true → ∀ i ∈ js, i ∉ ρ
  | [], _, _ => fun i hi => by cases hi
  | j :: r, ρ, h => fun i hi => by
    unfold disj at h
    cases hb : memB j ρ with
    | true => rw [hb] at h; cases h
    | false =>
      rw [hb] at h
      rcases List.mem_cons.1 hi with rfl | hi
      · exact memB_of hb
      · exact disj_of h i hi
theorem frzIds_cases : ∀ {js : List Nat} {st : Store} {K : Store → Prop}, frzIds st js K → ∃ st', K st' ∧ (∀ i, i ∉ js → st'.get i = st.get i) ∧ ∀ i ∈ js, ∃ fz t x, st.get i = some (.row fz t x) ∧ st'.get i = some (.row true t x)
  | [], st, K, h => ⟨st, h, fun _ _ => rfl, fun i hi => by cases hi⟩
  | j :: r, st, K, h => by
    unfold frzIds at h
    split at h
    · rename_i fz t x hg
      cases fz with
      | true =>
        obtain ⟨st', h1, h2, h3⟩ := frzIds_cases h
        refine ⟨st', h1, fun i hi => h2 i (fun h => hi (List.mem_cons_of_mem _ h)), fun i hi => ?_⟩
        by_cases hr : i ∈ r
        · exact h3 i hr
        · rcases List.mem_cons.1 hi with rfl | h
          · exact ⟨true, t, x, hg, by rw [h2 i hr]; exact hg⟩
          · exact absurd h hr
      | false =>
        simp only [Store.setK_eq] at h
        obtain ⟨st', h1, h2, h3⟩ := frzIds_cases h
        refine ⟨st', h1, fun i hi => ?_, fun i hi => ?_⟩
        · rw [h2 i (fun h => hi (List.mem_cons_of_mem _ h)), Store.get_set, if_neg (fun e => hi (by rw [e]; simp))]
        · by_cases hr : i ∈ r
          · obtain ⟨fz', t', x', k1, k2⟩ := h3 i hr
            rw [Store.get_set] at k1
            split at k1
            · cases k1; subst_vars; exact ⟨false, _, _, hg, k2⟩
            · exact ⟨fz', t', x', k1, k2⟩
          · rcases List.mem_cons.1 hi with rfl | h
            · exact ⟨false, t, x, hg, by rw [h2 i hr, Store.get_set, if_pos rfl]⟩
            · exact absurd h hr
    · exact h.elim
section ni
variable {I I' : Nat → Prop} {w : World} {m : M}
theorem allB_all {p : AV → Bool} : ∀ {l : List AV}, allB p l = true → ∀ v ∈ l, p v = true
  | [], _ => fun v hv => by cases hv
  | a :: r, h => fun v hv => by
    unfold allB at h
    split at h
    · rcases List.mem_cons.1 hv with rfl | hv
      · assumption
      · exact allB_all h v hv
    · cases h
theorem RV0_ni {v : AV} {cv : Value} (e : v.ni0 = true) (h : RV0 I w m v cv) : RV0 I' w m v cv := by cases v <;> first | exact h | cases e
theorem RVL0_ni : ∀ {l : List AV} {r : List Value}, (∀ v ∈ l, v.ni0 = true) → RVL0 I w m l r → RVL0 I' w m l r
  | [], [], _, _ => trivial
  | _ :: _, _ :: _, e, h => ⟨RV0_ni (e _ (by simp)) h.1, RVL0_ni (fun v hv => e v (by simp [hv])) h.2⟩
  | [], _ :: _, _, h => h.elim
  | _ :: _, [], _, h => h.elim
theorem RV1_ni {v : AV} {cv : Value} (e : v.ni1 = true) (h : RV1 I w m v cv) : RV1 I' w m v cv := by
  rcases RV1_cases h with h' | ⟨l, cs, rfl, rfl, h'⟩
  · by_cases ha : ∃ l, v = .agg l
    · obtain ⟨l, rfl⟩ := ha; exact h'.elim
    · have : v.ni1 = v.ni0 := by cases v <;> first | rfl | exact absurd ⟨_, rfl⟩ ha
      rw [this] at e; exact RV1_of (RV0_ni e h')
  · exact ⟨cs, rfl, RVL0_ni (allB_all e) h'⟩
theorem RVL1_ni : ∀ {l : List AV} {r : List Value}, (∀ v ∈ l, v.ni1 = true) → RVL1 I w m l r → RVL1 I' w m l r
  | [], [], _, _ => trivial
  | _ :: _, _ :: _, e, h => ⟨RV1_ni (e _ (by simp)) h.1, RVL1_ni (fun v hv => e v (by simp [hv])) h.2⟩
  | [], _ :: _, _, h => h.elim
  | _ :: _, [], _, h => h.elim
theorem RV_ni {v : AV} {cv : Value} (e : v.ni = true) (h : RV I w m v cv) : RV I' w m v cv := by
  rcases RV_cases h with rfl | ⟨rfl, rfl⟩ | h' | ⟨l, cs, rfl, rfl, h'⟩
  · trivial
  · rfl
  · rcases RV2_cases h' with h' | ⟨f, l, c, fs, cs, rfl, rfl, _⟩
    · have : v.ni = v.ni1 := by cases v <;> first | rfl | exact (h' : False).elim
      rw [this] at e; exact RV_of (RV2_of (RV1_ni e h'))
    · cases e
  · exact ⟨cs, rfl, RVL1_ni (allB_all e) h'⟩
theorem niO_all : ∀ {l : List Obj}, niO l = true → ∀ o ∈ l, o.ni = true
  | [], _ => fun v hv => by cases hv
  | a :: r, h => fun v hv => by
    unfold niO at h
    split at h
    · rcases List.mem_cons.1 hv with rfl | hv
      · assumption
      · exact niO_all h v hv
    · cases h
end ni
/-- A thing, told by other numbers. -/
theorem ObjOk.ren {I I' : Nat → Prop} {w : World} {m m' : M} {g : Nat → Nat} {j : Nat} {o : Obj} (hj : m.used j) (hg : ∀ i, m.used i → Rn m m' g i) (hI : (∀ b, I b → I' b) ∨ o.ni = true) (h : ObjOk I w m j o) : ObjOk I' w m' (g j) (renO g o) := by
  obtain ⟨k1, k2, k3, k4, k5⟩ := hg j hj
  cases o with
  | dead => trivial
  | box l =>
    obtain ⟨b, cs, T, fz, h1, h2, h3, h4⟩ := h
    refine ⟨b, cs, T, fz, by rw [k2]; exact h1, h2, h3, ?_⟩
    have h5 := RVL0_ren (m' := m') (g := g) (fun i _ hu => hg i hu) h4
    rcases hI with hI | hI
    · exact RVL0_mono hI (fun _ _ => rfl) m'.le_refl _ _ h5
    · refine RVL0_ni (fun v hv => ?_) h5
      obtain ⟨u, hu, rfl⟩ := List.mem_map.1 hv
      have := allB_all hI u hu
      cases u <;> first | rfl | cases this
  | row fz t x =>
    obtain ⟨h1, h2, h3, h4, h5⟩ := h
    refine ⟨by rw [k5]; exact h1, by rw [k4]; exact h2, by rw [k3]; exact h3, by rw [k3]; exact h4, ?_⟩
    rw [k2, k3]
    rcases h5 with h5 | ⟨b, cs, T, f, h6, h7, h8, h9, h10⟩
    · exact .inl h5
    · refine .inr ⟨b, cs, T, f, h6, h7, h8, h9, ?_⟩
      have h10 : EA I w t x fun k => cs[k]? := h10
      rcases hI with hI | hI
      · exact EA.mono hI (fun _ _ => rfl) h10
      · exact EA.plain (by simp only [Obj.ni] at hI; split at hI <;> first | cases hI | exact hI) h10
  | iter s p =>
    obtain ⟨b, t, h1, h2, h3⟩ := h
    exact ⟨b, t, by rw [k2]; exact h1, h2, h3⟩
  | map q kt vt l =>
    obtain ⟨b, es, c, h1, h2, h3⟩ := h
    refine ⟨b, es, c, by rw [k2]; exact h1, h2, ?_⟩
    rcases hI with hI | hI
    · exact h3.mono hI fun _ _ => rfl
    · have hp : kt.plain = true ∧ vt.plain = true := by
        simp only [Obj.ni] at hI
        split at hI
        · exact ⟨by assumption, hI⟩
        · cases hI
      exact ⟨h3.1, fun i a b => ⟨⟨RC_plain _ _ _ hp.1 (h3.2.1 i a b).1.1, (h3.2.1 i a b).1.2⟩, ⟨RC_plain _ _ _ hp.2 (h3.2.1 i a b).2.1, (h3.2.1 i a b).2.2⟩⟩, h3.2.2⟩
theorem renO_mut (g : Nat → Nat) (o : Obj) : (renO g o).mut = o.mut ∧ (renO g o).live = o.live := by cases o <;> exact ⟨rfl, rfl⟩
theorem ObjCan.same {nx : Nat} {ρ : List Nat} {o o' : Obj} (h : ObjCan nx ρ o o') : o'.mut = o.mut ∧ o'.live = o.live := by
  cases o <;> cases o' <;> first | exact ⟨rfl, rfl⟩ | exact h.elim | (cases (show _ = _ from h) <;> exact ⟨rfl, rfl⟩)
theorem mut_live {o : Obj} (h : o.mut = true) : o.live = true := by cases o <;> first | rfl | cases h
/-- The book of a call's things. -/
def locM (m : M) (ρ : List Nat) (nx : Nat) : M :=
  { blk := fun j => m.blk (un ρ nx j), cap := fun j => m.cap (un ρ nx j), len := fun j => m.len (un ρ nx j), sz := fun j => m.sz (un ρ nx j), used := fun j => j < ρ.length }
/-- The book behind the call. -/
def fullM (m m' : M) (nx k n : Nat) : M :=
  { blk := fun i => if nx ≤ i ∧ i < nx + n then m'.blk (k + (i - nx)) else m.blk i, cap := fun i => if nx ≤ i ∧ i < nx + n then m'.cap (k + (i - nx)) else m.cap i,
    len := fun i => if nx ≤ i ∧ i < nx + n then m'.len (k + (i - nx)) else m.len i, sz := fun i => if nx ≤ i ∧ i < nx + n then m'.sz (k + (i - nx)) else m.sz i, used := fun i => m.used i ∨ (nx ≤ i ∧ i < nx + n) }
theorem row_ren {g : Nat → Nat} {o : Obj} {fz : Bool} {t : Ty} {x : List t.den} (h : renO g o = .row fz t x) : o = .row fz t x := by cases o <;> first | exact h | cases h
/-- The memory behind a call. -/
theorem after_call {X0 : Bool → Nat → Prop} {I0 I I' If : Nat → Prop} {w0 w w' : World} {m ml' : M} {σ σ' : Sto} {ρ js Jf : List Nat} {nx : Nat} {objs objs' : List Obj} {v : AV} {cv : Value}
    (hs : HS X0 I0 w0 σ I w m) (hnod : ρ.Nodup) (hρ : ∀ i ∈ ρ, i < nx) (hk : objs.length = ρ.length)
    (hσ : ∀ j (h : j < ρ.length) (h' : j < objs.length), ∃ o, σ ρ[j] = some o ∧ objs[j].mut = o.mut ∧ objs[j].live = o.live)
    (hfr : ∀ i, nx ≤ i → i < nx + (objs'.length - ρ.length) → ¬ m.used i)
    (hL : Left (Ib I m js) w (locM m ρ nx) objs v cv objs' I' w' ml')
    (hI : (If = I' ∧ Jf = js) ∨ (If = I ∧ Jf = [] ∧ v.ni = true ∧ ∀ o ∈ objs', o.ni = true))
    (hj1 : ∀ i ∈ js, i ∉ ρ) (hj2 : ∀ i ∈ js, i < nx ∧ ∃ o, σ i = some o ∧ o.live = true)
    (hin : ∀ j (h : j < objs'.length), ∃ o', σ' (un ρ nx j) = some o' ∧ o'.mut = objs'[j].mut ∧ o'.live = objs'[j].live ∧ (∀ t x, o' = .row true t x → objs'[j] = .row true t x) ∧ ∀ (J : Nat → Prop) (u : World) (q : M) i, ObjOk J u q i (renO (un ρ nx) objs'[j]) → ObjOk J u q i o')
    (hlent : ∀ i ∈ Jf, ∃ fz t x, σ i = some (.row fz t x) ∧ σ' i = some (.row true t x))
    (hout : ∀ i, (∀ j, j < objs'.length → i ≠ un ρ nx j) → i ∉ Jf → σ' i = σ i) :
    HS X0 I0 w0 σ' If w' (fullM m ml' nx ρ.length (objs'.length - ρ.length)) ∧ Evo I w m If w' (fullM m ml' nx ρ.length (objs'.length - ρ.length)) ∧ RV If w' (fullM m ml' nx ρ.length (objs'.length - ρ.length)) (ren2 (un ρ nx) v) cv := by
  have hlen := hL.len
  have hupI : ∀ b, I b → I' b := fun b hb => hL.E.up b (.inl hb)
  have hIf' : ∀ b, If b → I' b := fun b hb => by
    rcases hI with ⟨rfl, _⟩ | ⟨rfl, _⟩
    · exact hb
    · exact hupI b hb
  have hIIf : ∀ b, I b → If b := fun b hb => by
    rcases hI with ⟨rfl, _⟩ | ⟨rfl, _⟩
    · exact hupI b hb
    · exact hb
  have hJf : ∀ i ∈ Jf, i ∈ js ∧ If = I' := fun i hi => by
    rcases hI with ⟨h, rfl⟩ | ⟨_, rfl, _⟩
    · exact ⟨hi, h⟩
    · cases hi
  have hsameI : Same I w w' := fun b hb => hL.E.same b (.inl hb)
  have hle : m.le (fullM m ml' nx ρ.length (objs'.length - ρ.length)) := ⟨fun i hi => .inl hi, fun i hi => by
    have hne : ¬ (nx ≤ i ∧ i < nx + (objs'.length - ρ.length)) := fun h => hfr i h.1 h.2 hi
    simp only [fullM, M.same]
    rw [if_neg hne, if_neg hne, if_neg hne, if_neg hne]
    exact ⟨rfl, rfl, rfl, rfl⟩⟩
  have hE : Evo I w m If w' (fullM m ml' nx ρ.length (objs'.length - ρ.length)) := ⟨hIIf, hsameI, hle⟩
  have husedρ : ∀ j (h : j < ρ.length), m.used ρ[j] := fun j h => by
    obtain ⟨o, ho, _⟩ := hσ j h (by omega)
    exact hs.H.lt _ (by rw [ho]; intro h; cases h)
  -- the local book and the full one
  have hRn : ∀ j, ml'.used j → Rn ml' (fullM m ml' nx ρ.length (objs'.length - ρ.length)) (un ρ nx) j := fun j hj => by
    have hjl := hL.used j hj
    rcases Nat.lt_or_ge j ρ.length with h | h
    · obtain ⟨e1, e2, e3, e4⟩ := hL.E.m.2 j h
      have hu := husedρ j h
      have hne : ¬ (nx ≤ ρ[j] ∧ ρ[j] < nx + (objs'.length - ρ.length)) := fun h' => hfr _ h'.1 h'.2 hu
      simp only [locM, un_lt h] at e1 e2 e3 e4
      refine ⟨?_, ?_, ?_, ?_, ?_⟩ <;> simp only [fullM, un_lt h]
      · exact .inl hu
      · rw [if_neg hne, e1]
      · rw [if_neg hne, e2]
      · rw [if_neg hne, e3]
      · rw [if_neg hne, e4]
    · have hin' : nx ≤ nx + (j - ρ.length) ∧ nx + (j - ρ.length) < nx + (objs'.length - ρ.length) := by omega
      have ej : ρ.length + (nx + (j - ρ.length) - nx) = j := by omega
      refine ⟨?_, ?_, ?_, ?_, ?_⟩ <;> simp only [fullM, un_ge h]
      · exact .inr hin'
      all_goals rw [if_pos hin', ej]
  have hu' : ∀ j, j < objs'.length → ml'.used j := fun j hj => hL.H.lt j (by simp only [ofL]; rw [List.getElem?_eq_getElem hj]; intro h; cases h)
  have hob : ∀ j (h : j < objs'.length), ofL objs' j = some objs'[j] := fun j h => List.getElem?_eq_getElem h
  -- a block of a thing of the call's, behind it
  have hblk0 : ∀ j (h : j < objs'.length) b, objs'[j].live = true → (fullM m ml' nx ρ.length (objs'.length - ρ.length)).blk (un ρ nx j) = some b → w.heap.size ≤ b ∨ ∃ i ∈ ρ, ∃ o, σ i = some o ∧ o.live = true ∧ (objs'[j].mut = true → o.mut = true) ∧ m.blk i = some b := fun j h b hl hb => by
    rw [(hRn j (hu' j h)).2.1] at hb
    rcases hL.own j _ b (hob j h) hl hb with h1 | ⟨k, o', h1, h2, h3, h4⟩
    · exact .inl h1
    · have hkl : k < objs.length := by
        rcases Nat.lt_or_ge k objs.length with h | h
        · exact h
        · rw [List.getElem?_eq_none h] at h1; cases h1
      rw [List.getElem?_eq_getElem hkl] at h1
      cases h1
      obtain ⟨o, ho, hm, hlv⟩ := hσ k (by omega) hkl
      refine .inr ⟨ρ[k]'(by omega), List.getElem_mem _, o, ho, by rw [← hlv]; exact h2, fun h => by rw [← hm]; exact h3 h, ?_⟩
      simp only [locM, un_lt (show k < ρ.length by omega)] at h4
      exact h4
  have hXL : ∀ b, XL (locM m ρ nx) objs b → ∃ i ∈ ρ, ∃ o, σ i = some o ∧ o.mut = true ∧ m.blk i = some b := fun b hb => by
    obtain ⟨k, o', h1, h2, h4⟩ := hb
    have hkl : k < objs.length := by
      rcases Nat.lt_or_ge k objs.length with h | h
      · exact h
      · rw [List.getElem?_eq_none h] at h1; cases h1
    rw [List.getElem?_eq_getElem hkl] at h1
    cases h1
    obtain ⟨o, ho, hm, hlv⟩ := hσ k (by omega) hkl
    refine ⟨ρ[k]'(by omega), List.getElem_mem _, o, ho, by rw [← hm]; exact h2, ?_⟩
    simp only [locM, un_lt (show k < ρ.length by omega)] at h4
    exact h4
  have hunρ : ∀ i ∈ ρ, ∃ j, j < objs'.length ∧ i = un ρ nx j := fun i hi => by
    obtain ⟨j, hj, rfl⟩ := List.mem_iff_getElem.1 hi
    exact ⟨j, by omega, (un_lt hj).symm⟩
  have hjne : ∀ i ∈ js, ∀ j, j < objs'.length → i ≠ un ρ nx j := fun i hi j hj e => by
    rcases Nat.lt_or_ge j ρ.length with h | h
    · rw [un_lt h] at e; exact hj1 i hi (by rw [e]; exact List.getElem_mem h)
    · rw [un_ge h] at e; have := (hj2 i hi).1; omega
  have hblkj : ∀ i ∈ js, (fullM m ml' nx ρ.length (objs'.length - ρ.length)).blk i = m.blk i := fun i hi => by
    have := (hj2 i hi).1
    simp only [fullM]; rw [if_neg (by omega)]
  have hjlt : ∀ i ∈ js, ∀ b, m.blk i = some b → b < w.heap.size := fun i hi b hb => by
    obtain ⟨_, o, ho, hl⟩ := hj2 i hi
    exact (hs.H.obj i o ho).lt hl hb
  have hstep : HS X0 I0 w0 σ' If w' (fullM m ml' nx ρ.length (objs'.length - ρ.length)) := by
    refine hs.step hE (fun i => (∃ j, j < objs'.length ∧ i = un ρ nx j) ∨ i ∈ Jf) (fun i hi => ?_) (hL.fr.weak fun b hb => ?_) (fun b hb => ?_) (fun b hb => hL.H.Ilt b (hIf' b hb)) (fun i o hT e => ?_) (fun i o b hT e hl hb => ?_) (fun i i2 o o2 b hT hT2 e e2 hl hl2 hb hb2 => ?_) (fun i o b hT e hm hb hIb => ?_) (fun i t x b hT e hb => ?_)
    · exact hout i (fun j hj e => hi (.inl ⟨j, hj, e⟩)) (fun h => hi (.inr h))
    · obtain ⟨i, hi, o, h1, h2, h3⟩ := hXL b hb
      exact ⟨i, o, .inl (hunρ i hi), h1, h2, h3⟩
    · rcases hI with ⟨rfl, rfl⟩ | ⟨rfl, _⟩
      · rcases hL.new b hb with h | h | h
        · rcases h with h | ⟨i, hi, h⟩
          · exact .inl h
          · obtain ⟨fz, t, x, h1, h2⟩ := hlent i hi
            cases fz with
            | true => exact .inl (hs.H.isI i t x b h1 h)
            | false => exact .inr (.inr ⟨i, _, .inr hi, h1, rfl, h⟩)
        · exact .inr (.inl h)
        · obtain ⟨i, hi, o, h1, h2, h3⟩ := hXL b h
          exact .inr (.inr ⟨i, o, .inl (hunρ i hi), h1, h2, h3⟩)
      · exact .inl hb
    · rcases hT with ⟨j, hj, rfl⟩ | hT
      · obtain ⟨o', g1, g2, g3, g4, g5⟩ := hin j hj
        rw [g1] at e; cases e
        refine ⟨(hRn j (hu' j hj)).1, g5 _ _ _ _ (ObjOk.ren (hu' j hj) hRn ?_ (hL.H.obj j _ (hob j hj)))⟩
        rcases hI with ⟨rfl, _⟩ | ⟨_, _, _, h⟩
        · exact .inl fun _ h => h
        · exact .inr (h _ (List.getElem_mem hj))
      · obtain ⟨hjs, hIfe⟩ := hJf i hT
        obtain ⟨fz, t, x, h1, h2⟩ := hlent i hT
        rw [h2] at e; cases e
        have hui := hs.H.lt i (by rw [h1]; intro h; cases h)
        refine ⟨.inl hui, ?_⟩
        have hok : ObjOk I w m i (.row true t x) := (hs.H.obj i _ h1 : ObjOk I w m i (.row fz t x))
        exact hok.mono hIIf hsameI hle hui fun _ b hb => hL.E.same b (.inr ⟨i, hjs, hb⟩)
    · rcases hT with ⟨j, hj, rfl⟩ | hT
      · obtain ⟨o', g1, g2, g3, g4, g5⟩ := hin j hj
        rw [g1] at e; cases e
        rcases hblk0 j hj b (by rw [← g3]; exact hl) hb with h | ⟨i, hi, o2, h1, h2, h3, h4⟩
        · exact .inl h
        · exact .inr ⟨i, o2, .inl (hunρ i hi), h1, h2, fun h => h3 (by rw [← g2]; exact h), h4⟩
      · obtain ⟨hjs, _⟩ := hJf i hT
        obtain ⟨fz, t, x, h1, h2⟩ := hlent i hT
        rw [h2] at e; cases e
        rw [hblkj i hjs] at hb
        exact .inr ⟨i, _, .inr hT, h1, rfl, fun h => (by cases h), hb⟩
    · -- no two of them in one block
      have cross : ∀ j (hj : j < objs'.length) i, i ∈ js → objs'[j].live = true → (fullM m ml' nx ρ.length (objs'.length - ρ.length)).blk (un ρ nx j) = some b → m.blk i = some b → False := fun j hj i hi hl hb hbi => by
        rcases hblk0 j hj b hl hb with h | ⟨k, hk', o3, h1, h2, _, h4⟩
        · have := hjlt i hi b hbi; omega
        · obtain ⟨_, o4, ho4, hl4⟩ := hj2 i hi
          exact hj1 i hi (hs.H.inj k i o3 o4 b h1 ho4 h2 hl4 h4 hbi ▸ hk')
      rcases hT with ⟨j, hj, rfl⟩ | hT <;> rcases hT2 with ⟨j2, hj2', rfl⟩ | hT2
      · obtain ⟨o', g1, g2, g3, _⟩ := hin j hj
        obtain ⟨o2', k1, k2, k3, _⟩ := hin j2 hj2'
        rw [g1] at e; cases e
        rw [k1] at e2; cases e2
        rw [(hRn j (hu' j hj)).2.1] at hb
        rw [(hRn j2 (hu' j2 hj2')).2.1] at hb2
        rw [hL.H.inj j j2 _ _ b (hob j hj) (hob j2 hj2') (by rw [← g3]; exact hl) (by rw [← k3]; exact hl2) hb hb2]
      · obtain ⟨o', g1, g2, g3, _⟩ := hin j hj
        rw [g1] at e; cases e
        obtain ⟨hjs, _⟩ := hJf i2 hT2
        rw [hblkj i2 hjs] at hb2
        exact (cross j hj i2 hjs (by rw [← g3]; exact hl) hb hb2).elim
      · obtain ⟨o', g1, g2, g3, _⟩ := hin j2 hj2'
        rw [g1] at e2; cases e2
        obtain ⟨hjs, _⟩ := hJf i hT
        rw [hblkj i hjs] at hb
        exact (cross j2 hj2' i hjs (by rw [← g3]; exact hl2) hb2 hb).elim
      · obtain ⟨hjs, _⟩ := hJf i hT
        obtain ⟨hjs2, _⟩ := hJf i2 hT2
        rw [hblkj i hjs] at hb
        rw [hblkj i2 hjs2] at hb2
        obtain ⟨_, o4, ho4, hl4⟩ := hj2 i hjs
        obtain ⟨_, o5, ho5, hl5⟩ := hj2 i2 hjs2
        exact hs.H.inj i i2 o4 o5 b ho4 ho5 hl4 hl5 hb hb2
    · rcases hT with ⟨j, hj, rfl⟩ | hT
      · obtain ⟨o', g1, g2, g3, _⟩ := hin j hj
        rw [g1] at e; cases e
        rw [(hRn j (hu' j hj)).2.1] at hb
        exact hL.H.notI j _ b (hob j hj) (by rw [← g2]; exact hm) hb (hIf' b hIb)
      · obtain ⟨fz, t, x, h1, h2⟩ := hlent i hT
        rw [h2] at e; cases e; cases hm
    · rcases hT with ⟨j, hj, rfl⟩ | hT
      · obtain ⟨o', g1, g2, g3, g4, _⟩ := hin j hj
        rw [g1] at e; cases e
        have hrow := g4 t x rfl
        rw [(hRn j (hu' j hj)).2.1] at hb
        have := hL.H.isI j t x b (by rw [hob j hj, hrow]) hb
        rcases hI with ⟨rfl, _⟩ | ⟨_, _, _, h⟩
        · exact this
        · have := h _ (List.getElem_mem hj)
          rw [hrow] at this; cases this
      · obtain ⟨hjs, rfl⟩ := hJf i hT
        rw [hblkj i hjs] at hb
        exact hL.E.up b (.inr ⟨i, hjs, hb⟩)
  refine ⟨hstep, hE, ?_⟩
  have hrv := RV_ren (m' := fullM m ml' nx ρ.length (objs'.length - ρ.length)) (g := un ρ nx) (fun i _ hu => hRn i hu) hL.rv
  rcases hI with ⟨rfl, _⟩ | ⟨_, _, hv, _⟩
  · exact hrv
  · refine RV_ni ?_ hrv
    have hr0 : ∀ u : AV, u.ni0 = true → (ren0 (un ρ nx) u).ni0 = true := fun u hu => by cases u <;> first | rfl | cases hu
    have hall0 : ∀ l : List AV, allB AV.ni0 l = true → allB AV.ni0 (l.map (ren0 (un ρ nx))) = true := fun l => by
      induction l with
      | nil => intro _; rfl
      | cons a r ih =>
        intro h
        unfold allB at h
        split at h
        · simp only [List.map_cons, allB, hr0 a ‹_›]; exact ih h
        · cases h
    have hr1 : ∀ u : AV, u.ni1 = true → (ren1 (un ρ nx) u).ni1 = true := fun u hu => by
      cases u <;> first | rfl | exact hall0 _ hu | cases hu
    have hall1 : ∀ l : List AV, allB AV.ni1 l = true → allB AV.ni1 (l.map (ren1 (un ρ nx))) = true := fun l => by
      induction l with
      | nil => intro _; rfl
      | cons a r ih =>
        intro h
        unfold allB at h
        split at h
        · simp only [List.map_cons, allB, hr1 a ‹_›]; exact ih h
        · cases h
    cases v <;> first | rfl | exact hall1 _ hv | exact hall0 _ hv | cases hv
end Go.Eng
