/- Summaries that are told by plain functions. No condition. -/
import Derived.Test.YtoejpijobbcooaaDoorEFn
namespace Go.Eng
set_option linter.unusedVariables false
set_option linter.unusedSimpArgs false
/-- What only reads: what is owed, and the result. -/
def RoF (f : List AV → List Obj → Option (Prop × AV)) : SumK := .ro fun args objs K => match f args objs with
  | some (p, v) => need p (K v)
  | none => False
def RwF (f : List AV → List Obj → Option (Prop × AV × List Obj)) : SumK := .rw fun args objs K => match f args objs with
  | some (p, v, o) => need p (K v o)
  | none => False
theorem min_i64 : IntKind.i64.min = -9223372036854775808 := rfl
theorem max_i64 : IntKind.i64.max = 9223372036854775807 := rfl
theorem min_u64 : IntKind.u64.min = 0 := rfl
theorem max_u64 : IntKind.u64.max = 18446744073709551615 := rfl
theorem min_u32 : IntKind.u32.min = 0 := rfl
theorem max_u32 : IntKind.u32.max = 4294967295 := rfl
theorem min_u16 : IntKind.u16.min = 0 := rfl
theorem max_u16 : IntKind.u16.max = 65535 := rfl
theorem min_u8 : IntKind.u8.min = 0 := rfl
theorem max_u8 : IntKind.u8.max = 255 := rfl
theorem cast_rfl {t : Ty} (h : t = t) (x : List t.den) : (h ▸ x : List t.den) = x := rfl
theorem dflt_int {k : IntKind} : (Ty.int k).dflt = (0 : Int) := rfl
theorem tmod_nn {a b : Int} (h : 0 ≤ a) : a.tmod b = a % b := Int.tmod_eq_emod_of_nonneg h
theorem tdiv_nn {a b : Int} (h : 0 ≤ a) : a.tdiv b = a / b := Int.tdiv_eq_ediv_of_nonneg h
section
variable {P : Program} {Γ : Env} {id : FuncId} {fn : Func} {ir : IR} {rd : List RD}
theorem ro_det (f : List AV → List Obj → Option (Prop × AV)) : Det (RoF f).sum := fun {args objs K} h => by
  simp only [RoF, SumK.sum] at h ⊢
  split at h
  · rename_i p v e
    obtain ⟨hp, hk⟩ := need_both h
    exact ⟨v, objs, hk, need_of hp fun _ => ⟨rfl, rfl⟩⟩
  · exact h.elim
theorem rw_det (f : List AV → List Obj → Option (Prop × AV × List Obj)) : Det (RwF f).sum := fun {args objs K} h => by
  simp only [RwF, SumK.sum] at h ⊢
  split at h
  · rename_i p v o e
    obtain ⟨hp, hk⟩ := need_both h
    exact ⟨v, o, hk, need_of hp fun _ => ⟨rfl, rfl⟩⟩
  · exact h.elim
/-- The summary of one call alone. -/
def One (args : List AV) (objs : List Obj) (v : AV) (o : List Obj) : Sum := fun a b K => a = args ∧ b = objs ∧ K v o
theorem one_calls (hf : P.funcs[id]? = some fn) (hok : fnOk P fn ir rd = true) (hΓ : EnvOk P Γ) {args : List AV} {objs : List Obj} {v : AV} {o : List Obj} (hl : args.length = fn.params.size)
    (h : (∀ v ∈ args, v.wf1) → (∀ o ∈ objs, o.wf) → evFn Γ ir rd args objs fun v' o' => v' = v ∧ o' = o) : SoundS P id fun a b K => a = args ∧ b = objs ∧ ((fun v' o' => v' = v ∧ o' = o) = K) := by
  refine fn_sound hf hok hΓ (fun {a b K} hk => ?_) (fun a b K hk => by rw [hk.1]; exact hl) (fun a b K hw ho hk => ?_)
  · obtain ⟨rfl, rfl, rfl⟩ := hk
    exact ⟨v, o, ⟨rfl, rfl⟩, rfl, rfl, rfl⟩
  · obtain ⟨rfl, rfl, rfl⟩ := hk
    exact h hw ho
theorem ro_fn {f : List AV → List Obj → Option (Prop × AV)} (hf : P.funcs[id]? = some fn) (hok : fnOk P fn ir rd = true) (hΓ : EnvOk P Γ)
    (h : ∀ args objs p v, f args objs = some (p, v) → args.length = fn.params.size ∧ ((∀ v ∈ args, v.wf1) → (∀ o ∈ objs, o.wf) → p → evFn Γ ir rd args objs fun v' o' => v' = v ∧ o' = objs)) : SoundS P id (RoF f).sum := by
  have hc : Callable P id := by
    unfold fnOk at hok
    split at hok
    · rename_i c hb
      simp only [Bool.and_eq_true, decide_eq_true_eq, Bool.not_eq_true'] at hok
      exact ⟨fn, hf, hok.2, by rw [hb]; rfl⟩
    · cases hok
  refine ⟨hc, ro_det f, fun {I w m args cargs objs K} hH hA hu hS => ?_⟩
  simp only [RoF, SumK.sum] at hS
  split at hS
  · rename_i p v e
    obtain ⟨hp, hk⟩ := need_both hS
    obtain ⟨hl, hev⟩ := h args objs p v e
    have := one_calls hf hok hΓ (v := v) (o := objs) hl fun hw ho => hev hw ho hp
    refine (this.2.2 hH hA hu ⟨rfl, rfl, rfl⟩).mono ?_
    rintro e w' ⟨v', cv, objs', I', m', h1, ⟨rfl, rfl⟩, h3⟩
    exact ⟨v', cv, objs', I', m', h1, hk, h3⟩
  · exact hS.elim
theorem rw_fn {f : List AV → List Obj → Option (Prop × AV × List Obj)} (hf : P.funcs[id]? = some fn) (hok : fnOk P fn ir rd = true) (hΓ : EnvOk P Γ)
    (h : ∀ args objs p v o, f args objs = some (p, v, o) → args.length = fn.params.size ∧ ((∀ v ∈ args, v.wf1) → (∀ o ∈ objs, o.wf) → p → evFn Γ ir rd args objs fun v' o' => v' = v ∧ o' = o)) : SoundS P id (RwF f).sum := by
  have hc : Callable P id := by
    unfold fnOk at hok
    split at hok
    · rename_i c hb
      simp only [Bool.and_eq_true, decide_eq_true_eq, Bool.not_eq_true'] at hok
      exact ⟨fn, hf, hok.2, by rw [hb]; rfl⟩
    · cases hok
  refine ⟨hc, rw_det f, fun {I w m args cargs objs K} hH hA hu hS => ?_⟩
  simp only [RwF, SumK.sum] at hS
  split at hS
  · rename_i p v o e
    obtain ⟨hp, hk⟩ := need_both hS
    obtain ⟨hl, hev⟩ := h args objs p v o e
    have := one_calls hf hok hΓ (v := v) (o := o) hl fun hw ho => hev hw ho hp
    refine (this.2.2 hH hA hu ⟨rfl, rfl, rfl⟩).mono ?_
    rintro e w' ⟨v', cv, objs', I', m', h1, ⟨rfl, rfl⟩, h3⟩
    exact ⟨v', cv, objs', I', m', h1, hk, h3⟩
  · exact hS.elim
/-- Up to a measure. -/
def upF (f : List AV → List Obj → Option (Prop × AV)) (μ : List AV → Nat) (N : Nat) : List AV → List Obj → Option (Prop × AV) := fun args objs => match f args objs with
  | some (p, v) => some (p ∧ μ args < N, v)
  | none => none
/-- A function that calls itself. -/
theorem ro_rec {f : List AV → List Obj → Option (Prop × AV)} (μ : List AV → Nat) (hf : P.funcs[id]? = some fn) (hok : fnOk P fn ir rd = true) (hΓ : EnvOk P Γ)
    (h : ∀ args objs p v, f args objs = some (p, v) → args.length = fn.params.size ∧ ((∀ v ∈ args, v.wf1) → (∀ o ∈ objs, o.wf) → p → evFn ((id, RoF (upF f μ (μ args))) :: Γ) ir rd args objs fun v' o' => v' = v ∧ o' = objs)) : SoundS P id (RoF f).sum := by
  have key : ∀ N, ∀ M ≤ N, SoundS P id (RoF (upF f μ M)).sum := fun N => by
    induction N with
    | zero =>
      intro M hM
      refine ro_fn hf hok hΓ fun args objs p v e => ?_
      unfold upF at e
      split at e
      · rename_i p' v' e'
        cases e
        exact ⟨(h args objs _ _ e').1, fun _ _ hp => absurd hp.2 (by omega)⟩
      · cases e
    | succ N ih =>
      intro M hM
      rcases Nat.lt_or_ge N M with hlt | hge
      · have hM' : M = N + 1 := by omega
        subst hM'
        have one : ∀ args objs p v, f args objs = some (p, v) → μ args < N + 1 → args.length = fn.params.size ∧ ((∀ v ∈ args, v.wf1) → (∀ o ∈ objs, o.wf) → p → SoundS P id fun a b K => a = args ∧ b = objs ∧ ((fun v' o' => v' = v ∧ o' = objs) = K)) := fun args objs p v e hm => by
          obtain ⟨hl, hev⟩ := h args objs p v e
          refine ⟨hl, fun hw ho hp => ?_⟩
          exact one_calls hf hok (Γ := (id, RoF (upF f μ (μ args))) :: Γ) (env_cons (ih (μ args) (by omega)) hΓ) hl fun _ _ => hev hw ho hp
        have hc := (ih 0 (Nat.zero_le _)).1
        refine ⟨hc, ro_det _, fun {I w m args cargs objs K} hH hA hu hS => ?_⟩
        simp only [RoF, SumK.sum, upF] at hS
        split at hS
        · rename_i p v e
          split at e
          · rename_i p' v' e'
            cases e
            obtain ⟨hp, hk⟩ := need_both hS
            obtain ⟨hl, hs⟩ := one args objs _ _ e' hp.2
            have hw : ∀ v ∈ args, v.wf1 := RVL2_wf hA
            have ho : ∀ o ∈ objs, o.wf := fun o ho => by
              obtain ⟨i, hi, rfl⟩ := List.mem_iff_getElem.1 ho
              exact ObjOk_wf (hH.obj i _ (List.getElem?_eq_getElem hi))
            refine ((hs hw ho hp.1).2.2 hH hA hu ⟨rfl, rfl, rfl⟩).mono ?_
            rintro e w' ⟨v', cv, objs', I', m', h1, ⟨rfl, rfl⟩, h3⟩
            exact ⟨v', cv, objs', I', m', h1, hk, h3⟩
          · cases e
        · exact hS.elim
      · exact ih M hge
  refine ⟨(key 0 0 (Nat.le_refl _)).1, ro_det f, fun {I w m args cargs objs K} hH hA hu hS => ?_⟩
  simp only [RoF, SumK.sum] at hS
  split at hS
  · rename_i p v e
    obtain ⟨hp, hk⟩ := need_both hS
    refine (key _ (μ args + 1) (Nat.le_refl _)).2.2 hH hA hu ?_
    simp only [RoF, SumK.sum, upF, e]
    exact need_of ⟨hp, Nat.lt_succ_self _⟩ fun _ => hk
  · exact hS.elim
/-- The same, of what writes. -/
def upW (f : List AV → List Obj → Option (Prop × AV × List Obj)) (μ : List AV → Nat) (N : Nat) : List AV → List Obj → Option (Prop × AV × List Obj) := fun args objs => match f args objs with
  | some (p, v, o) => some (p ∧ μ args < N, v, o)
  | none => none
theorem rw_recE (E : Nat → SumK) {f : List AV → List Obj → Option (Prop × AV × List Obj)} (μ : List AV → Nat) (hE : ∀ M, SoundS P id (RwF (upW f μ M)).sum → SoundS P id (E M).sum) (hf : P.funcs[id]? = some fn) (hok : fnOk P fn ir rd = true) (hΓ : EnvOk P Γ)
    (h : ∀ args objs p v o, f args objs = some (p, v, o) → args.length = fn.params.size ∧ ((∀ v ∈ args, v.wf1) → (∀ o ∈ objs, o.wf) → p → evFn ((id, E (μ args)) :: Γ) ir rd args objs fun v' o' => v' = v ∧ o' = o)) : SoundS P id (RwF f).sum := by
  have key : ∀ N, ∀ M ≤ N, SoundS P id (RwF (upW f μ M)).sum := fun N => by
    induction N with
    | zero =>
      intro M hM
      refine rw_fn hf hok hΓ fun args objs p v o e => ?_
      unfold upW at e
      split at e
      · rename_i p' v' o' e'
        cases e
        exact ⟨(h args objs _ _ _ e').1, fun _ _ hp => absurd hp.2 (by omega)⟩
      · cases e
    | succ N ih =>
      intro M hM
      rcases Nat.lt_or_ge N M with hlt | hge
      · have hM' : M = N + 1 := by omega
        subst hM'
        have one : ∀ args objs p v o, f args objs = some (p, v, o) → μ args < N + 1 → args.length = fn.params.size ∧ ((∀ v ∈ args, v.wf1) → (∀ o ∈ objs, o.wf) → p → SoundS P id fun a b K => a = args ∧ b = objs ∧ ((fun v' o' => v' = v ∧ o' = o) = K)) := fun args objs p v o e hm => by
          obtain ⟨hl, hev⟩ := h args objs p v o e
          refine ⟨hl, fun hw ho hp => ?_⟩
          exact one_calls hf hok (Γ := (id, E (μ args)) :: Γ) (env_cons (hE _ (ih (μ args) (by omega))) hΓ) hl fun _ _ => hev hw ho hp
        have hc := (ih 0 (Nat.zero_le _)).1
        refine ⟨hc, rw_det _, fun {I w m args cargs objs K} hH hA hu hS => ?_⟩
        simp only [RwF, SumK.sum, upW] at hS
        split at hS
        · rename_i p v o e
          split at e
          · rename_i p' v' o' e'
            cases e
            obtain ⟨hp, hk⟩ := need_both hS
            obtain ⟨hl, hs⟩ := one args objs _ _ _ e' hp.2
            have hw : ∀ v ∈ args, v.wf1 := RVL2_wf hA
            have ho : ∀ o ∈ objs, o.wf := fun o ho => by
              obtain ⟨i, hi, rfl⟩ := List.mem_iff_getElem.1 ho
              exact ObjOk_wf (hH.obj i _ (List.getElem?_eq_getElem hi))
            refine ((hs hw ho hp.1).2.2 hH hA hu ⟨rfl, rfl, rfl⟩).mono ?_
            rintro e w' ⟨v', cv, objs', I', m', h1, ⟨rfl, rfl⟩, h3⟩
            exact ⟨v', cv, objs', I', m', h1, hk, h3⟩
          · cases e
        · exact hS.elim
      · exact ih M hge
  refine ⟨(key 0 0 (Nat.le_refl _)).1, rw_det f, fun {I w m args cargs objs K} hH hA hu hS => ?_⟩
  simp only [RwF, SumK.sum] at hS
  split at hS
  · rename_i p v o e
    obtain ⟨hp, hk⟩ := need_both hS
    refine (key _ (μ args + 1) (Nat.le_refl _)).2.2 hH hA hu ?_
    simp only [RwF, SumK.sum, upW, e]
    exact need_of ⟨hp, Nat.lt_succ_self _⟩ fun _ => hk
  · exact hS.elim
theorem rw_rec {f : List AV → List Obj → Option (Prop × AV × List Obj)} (μ : List AV → Nat) (hf : P.funcs[id]? = some fn) (hok : fnOk P fn ir rd = true) (hΓ : EnvOk P Γ)
    (h : ∀ args objs p v o, f args objs = some (p, v, o) → args.length = fn.params.size ∧ ((∀ v ∈ args, v.wf1) → (∀ o ∈ objs, o.wf) → p → evFn ((id, RwF (upW f μ (μ args))) :: Γ) ir rd args objs fun v' o' => v' = v ∧ o' = o)) : SoundS P id (RwF f).sum :=
  rw_recE (fun M => RwF (upW f μ M)) μ (fun _ h => h) hf hok hΓ h
/-- Results whose shape hangs on what is so: a tree of tests. -/
inductive Res where
  | one (v : AV) (o : List Obj)
  | br (b : Bool) (x y : Res)
def Res.pick : Res → AV × List Obj
  | .one v o => (v, o)
  | .br b x y => if b = true then x.pick else y.pick
def Res.run : Res → (AV → List Obj → Prop) → Prop
  | .one v o, K => K v o
  | .br b x y, K => cnd b (x.run K) (y.run K)
theorem Res.run_pick : ∀ (r : Res) (K : AV → List Obj → Prop), r.run K ↔ K r.pick.1 r.pick.2
  | .one _ _, _ => Iff.rfl
  | .br b x y, K => by
    unfold Res.run Res.pick
    cases b with
    | true => rw [if_pos rfl, ← Res.run_pick x K]; exact ⟨fun h => h true rfl, fun h t e => by subst e; exact h⟩
    | false => rw [if_neg (by simp), ← Res.run_pick y K]; exact ⟨fun h => h false rfl, fun h t e => by subst e; exact h⟩
def RcF (f : List AV → List Obj → Option (Prop × Res)) : SumK := .rw fun args objs K => match f args objs with
  | some (p, r) => need p (r.run K)
  | none => False
def pkF (f : List AV → List Obj → Option (Prop × Res)) : List AV → List Obj → Option (Prop × AV × List Obj) := fun args objs => match f args objs with
  | some (p, r) => some (p, r.pick.1, r.pick.2)
  | none => none
theorem rc_sum {f : List AV → List Obj → Option (Prop × Res)} : (RcF f).sum = (RwF (pkF f)).sum := funext fun args => funext fun objs => funext fun K => propext (by
  simp only [RcF, RwF, SumK.sum, pkF]
  cases f args objs with
  | none => exact Iff.rfl
  | some x => exact ⟨fun h => need_of (need_both h).1 fun _ => (Res.run_pick _ _).1 (need_both h).2, fun h => need_of (need_both h).1 fun _ => (Res.run_pick _ _).2 (need_both h).2⟩)
theorem pk_some {f : List AV → List Obj → Option (Prop × Res)} {args : List AV} {objs : List Obj} {p : Prop} {v : AV} {o : List Obj} (h : pkF f args objs = some (p, v, o)) : ∃ r, f args objs = some (p, r) ∧ v = r.pick.1 ∧ o = r.pick.2 := by
  unfold pkF at h
  split at h
  · rename_i p r e; cases h; exact ⟨r, e, rfl, rfl⟩
  · cases h
theorem rc_fn {f : List AV → List Obj → Option (Prop × Res)} (hf : P.funcs[id]? = some fn) (hok : fnOk P fn ir rd = true) (hΓ : EnvOk P Γ)
    (h : ∀ args objs p r, f args objs = some (p, r) → args.length = fn.params.size ∧ ((∀ v ∈ args, v.wf1) → (∀ o ∈ objs, o.wf) → p → evFn Γ ir rd args objs fun v' o' => v' = r.pick.1 ∧ o' = r.pick.2)) : SoundS P id (RcF f).sum := by
  rw [rc_sum]
  refine rw_fn hf hok hΓ fun args objs p v o e => ?_
  obtain ⟨r, e2, rfl, rfl⟩ := pk_some e
  exact h args objs p r e2
def upC (f : List AV → List Obj → Option (Prop × Res)) (μ : List AV → Nat) (N : Nat) : List AV → List Obj → Option (Prop × Res) := fun args objs => match f args objs with
  | some (p, r) => some (p ∧ μ args < N, r)
  | none => none
theorem pk_up (f : List AV → List Obj → Option (Prop × Res)) (μ : List AV → Nat) (N : Nat) : upW (pkF f) μ N = pkF (upC f μ N) := funext fun args => funext fun objs => by
  unfold upW pkF upC
  cases f args objs <;> rfl
theorem rc_rec {f : List AV → List Obj → Option (Prop × Res)} (μ : List AV → Nat) (hf : P.funcs[id]? = some fn) (hok : fnOk P fn ir rd = true) (hΓ : EnvOk P Γ)
    (h : ∀ args objs p r, f args objs = some (p, r) → args.length = fn.params.size ∧ ((∀ v ∈ args, v.wf1) → (∀ o ∈ objs, o.wf) → p → evFn ((id, RcF (upC f μ (μ args))) :: Γ) ir rd args objs fun v' o' => v' = r.pick.1 ∧ o' = r.pick.2)) : SoundS P id (RcF f).sum := by
  rw [rc_sum]
  refine rw_recE (fun M => RcF (upC f μ M)) μ (fun M hM => by rw [rc_sum, ← pk_up]; exact hM) hf hok hΓ fun args objs p v o e => ?_
  obtain ⟨r, e2, rfl, rfl⟩ := pk_some e
  exact h args objs p r e2
/-- What hands over a row of its own is, too, what hands over data that is only read. -/
theorem ro_of_rw {t : Ty} {f : List AV → List Obj → Option (Prop × AV × List Obj)} {g : List AV → List Obj → Option (Prop × AV)} (hs : SoundS P id (RwF f).sum)
    (h : ∀ args objs p v, g args objs = some (p, v) → objs = [] ∧ ∃ x, v = .imm t x ∧ (f args [] = some (p, .own 0, [.row false t x]) ∨ (f args [] = some (p, .nils, []) ∧ x = []))) : SoundS P id (RoF g).sum := by
  refine ⟨hs.1, ro_det g, fun {I w m args cargs objs K} hH hA hu hS => ?_⟩
  simp only [RoF, SumK.sum] at hS
  split at hS
  · rename_i p v e
    obtain ⟨hp, hk⟩ := need_both hS
    obtain ⟨rfl, x, rfl, hf⟩ := h args objs p v e
    have hno : ∀ i, ¬ m.used i := fun i hi => absurd (hu i hi) (by simp)
    rcases hf with hf | ⟨hf, rfl⟩
    · have hS' : (RwF f).sum args [] fun v o => v = .own 0 ∧ o = [.row false t x] := by
        unfold RwF SumK.sum; simp only; rw [hf]; exact need_of hp fun _ => ⟨rfl, rfl⟩
      refine (hs.2.2 hH hA hu hS').mono ?_
      rintro e w' ⟨v', cv, objs', I', m', rfl, ⟨rfl, rfl⟩, hL⟩
      have hi : ofL [Obj.row false t x] 0 = some (.row false t x) := rfl
      have hok := hL.H.obj 0 _ hi
      have hrv : RV0 I' w' m' (.own 0) cv := hL.rv
      have himm := own_imm (I' := fun b => I' b ∨ m'.blk 0 = some b) (fun _ h => .inl h) hok hrv fun b hb => .inr hb
      refine ⟨.imm t x, cv, [], (fun b => I' b ∨ m'.blk 0 = some b), ⟨fun _ => none, fun _ => 0, fun _ => 0, fun _ => 0, fun _ => False⟩, rfl, hk, ⟨RV_0 himm, ⟨fun i hi => absurd rfl hi, fun i o e => (by cases e), fun i j o o' b e => (by cases e), fun i o b e => (by cases e), fun i t x b e => (by cases e), fun b hb => ?_⟩, ⟨fun b hb => .inl (hL.E.up b hb), hL.E.same, ⟨fun i hi => absurd hi (hno i), fun i hi => absurd hi (hno i)⟩⟩, fun i hi => hi.elim, Nat.le_refl _, hL.fr, fun b hb => ?_, fun i o b e => (by cases e)⟩⟩
      · rcases hb with hb | hb
        · exact hL.H.Ilt b hb
        · exact hok.lt rfl hb
      · rcases hb with hb | hb
        · exact hL.new b hb
        · rcases hL.own 0 _ b hi rfl hb with h | ⟨j, o', h, _⟩
          · exact .inr (.inl h)
          · cases h
    · have hS' : (RwF f).sum args [] fun v o => v = .nils ∧ o = [] := by
        unfold RwF SumK.sum; simp only; rw [hf]; exact need_of hp fun _ => ⟨rfl, rfl⟩
      refine (hs.2.2 hH hA hu hS').mono ?_
      rintro e w' ⟨v', cv, objs', I', m', rfl, ⟨rfl, rfl⟩, hL⟩
      have hrv : cv = .slice none 0 0 := hL.rv
      subst hrv
      exact ⟨.imm t [], _, [], I', m', rfl, hk, ⟨RV_0 ⟨none, 0, 0, rfl, rfl, Nat.le_refl _, Nat.zero_le _, fun h => absurd h (by omega)⟩, hL.H, hL.E, hL.used, hL.len, hL.fr, hL.new, hL.own⟩⟩
  · exact hS.elim
theorem ro_of_rc {t : Ty} {f : List AV → List Obj → Option (Prop × Res)} {g : List AV → List Obj → Option (Prop × AV)} (hs : SoundS P id (RcF f).sum)
    (h : ∀ args objs p v, g args objs = some (p, v) → objs = [] ∧ ∃ x r, v = .imm t x ∧ f args [] = some (p, r) ∧ (r.pick = (.own 0, [.row false t x]) ∨ (r.pick = (.nils, []) ∧ x = []))) : SoundS P id (RoF g).sum := by
  rw [rc_sum] at hs
  refine ro_of_rw (t := t) hs fun args objs p v e => ?_
  obtain ⟨h1, x, r, h2, h3, h4⟩ := h args objs p v e
  refine ⟨h1, x, h2, ?_⟩
  unfold pkF
  rw [h3]
  rcases h4 with h4 | ⟨h4, h5⟩
  · exact .inl (by simp only [h4])
  · exact .inr ⟨by simp only [h4], h5⟩
theorem RVL0_own {I : Nat → Prop} {w : World} {m : M} {k : Nat} (hu : m.used k) (h1 : m.blk k = none) (h2 : m.cap k = 0) (h3 : m.len k = 0) : ∀ (pre : List AV) {post : List AV} {r : List Value}, RVL0 I w m (pre ++ .nils :: post) r → RVL0 I w m (pre ++ .own k :: post) r
  | [], post, v :: r, h => ⟨⟨none, 0, 0, h.1, hu, h3.symm, h2.symm, Nat.le_refl _, Nat.zero_le _, .inl ⟨h1, rfl, rfl⟩⟩, h.2⟩
  | a :: pre, post, v :: r, h => ⟨h.1, RVL0_own hu h1 h2 h3 pre h.2⟩
  | [], _, [], h => h.elim
  | _ :: _, _, [], h => h.elim
/-- A nil slice in a box may be held for a row of its own. -/
theorem own_of_nils {t : Ty} {f g : List AV → List Obj → Option (Prop × AV × List Obj)} (hs : SoundS P id (RwF f).sum)
    (h : ∀ args objs p v o, g args objs = some (p, v, o) → ∃ i pre post l, f args objs = some (p, v, l) ∧ l[i]? = some (.box (pre ++ .nils :: post)) ∧ o = l.set i (.box (pre ++ .own l.length :: post)) ++ [.row false t []]) : SoundS P id (RwF g).sum := by
  refine ⟨hs.1, rw_det g, fun {I w m args cargs objs K} hH hA hu hS => ?_⟩
  simp only [RwF, SumK.sum] at hS
  split at hS
  · rename_i p v o e0
    obtain ⟨hp, hk⟩ := need_both hS
    obtain ⟨i, pre, post, l, hf, hi, ho⟩ := h args objs p v o e0
    clear e0
    subst ho
    have hS' : (RwF f).sum args objs fun v' o' => v' = v ∧ o' = l := by
      unfold RwF SumK.sum; simp only; rw [hf]; exact need_of hp fun _ => ⟨rfl, rfl⟩
    refine (hs.2.2 hH hA hu hS').mono ?_
    rintro e w' ⟨v', cv, objs', I', m', rfl, ⟨rfl, rfl⟩, hL⟩
    have hnu : ¬ m'.used objs'.length := fun h => absurd (hL.used _ h) (Nat.lt_irrefl _)
    have hle : m'.le (m'.push objs'.length none 0 0 t.size) := M.push_le hnu
    have hilt : i < objs'.length := (List.getElem?_eq_some_iff.1 hi).1
    have hget : ∀ j, ofL (objs'.set i (.box (pre ++ .own objs'.length :: post)) ++ [.row false t []]) j = if j = objs'.length then some (.row false t []) else if j = i then some (.box (pre ++ .own objs'.length :: post)) else ofL objs' j := fun j => by
      unfold ofL
      by_cases h1 : j = objs'.length
      · subst h1; rw [if_pos rfl, List.getElem?_append_right (by simp)]; simp
      · rw [if_neg h1]
        by_cases h2 : j = i
        · subst h2; rw [if_pos rfl, List.getElem?_append_left (by simpa using hilt), List.getElem?_set_self (by simpa using hilt)]
        · rw [if_neg h2]
          by_cases h3 : j < objs'.length
          · rw [List.getElem?_append_left (by simpa using h3), List.getElem?_set_ne (fun e => h2 e.symm)]
          · rw [List.getElem?_eq_none (by simp; omega), List.getElem?_eq_none (by omega)]
    have hsame : ∀ j, j ≠ objs'.length → (m'.push objs'.length none 0 0 t.size).blk j = m'.blk j := fun j hj => if_neg hj
    have hold : ∀ j o, j ≠ objs'.length → ofL (objs'.set i (.box (pre ++ .own objs'.length :: post)) ++ [.row false t []]) j = some o → ∃ o', ofL objs' j = some o' ∧ o'.live = o.live ∧ o'.mut = o.mut ∧ (∀ t x, o = .row true t x → o' = o) := fun j o hj e => by
      rw [hget, if_neg hj] at e
      split at e
      · rename_i h2; subst h2; cases e; exact ⟨_, hi, rfl, rfl, fun _ _ h => by cases h⟩
      · exact ⟨o, e, rfl, rfl, fun _ _ _ => rfl⟩
    refine ⟨v', cv, _, I', m'.push objs'.length none 0 0 t.size, rfl, hk, ⟨RV_mono (fun _ h => h) (fun _ _ => rfl) hle _ _ hL.rv, ⟨fun j hj => ?_, fun j o e => ?_, fun j j' o o' b e e' hl hl' hb hb' => ?_, fun j o b e hm hb => ?_, fun j t' x b e hb => ?_, hL.H.Ilt⟩, hL.E.trans ⟨fun _ h => h, fun _ _ => rfl, hle⟩, fun j hj => ?_, ?_, hL.fr, hL.new, fun j o b e hl hb => ?_⟩⟩
    · by_cases h1 : j = objs'.length
      · exact .inr h1
      · rw [hget, if_neg h1] at hj
        refine .inl (hL.H.lt j ?_)
        by_cases h2 : j = i
        · subst h2; intro h; have hi' : ofL objs' j = _ := hi; rw [hi'] at h; cases h
        · rwa [if_neg h2] at hj
    · by_cases h1 : j = objs'.length
      · subst h1
        rw [hget, if_pos rfl] at e; cases e
        exact ⟨M.push_sz _ _ _ _ _ _, (M.push_len _ _ _ _ _ _).symm, Nat.zero_le _, by rw [M.push_cap]; exact Nat.zero_le _, .inl ⟨M.push_blk _ _ _ _ _ _, M.push_cap _ _ _ _ _ _⟩⟩
      · rw [hget, if_neg h1] at e
        by_cases h2 : j = i
        · subst h2
          rw [if_pos rfl] at e; cases e
          have hu' : m'.used j := hL.H.lt j (by have hi' : ofL objs' j = _ := hi; rw [hi']; intro h; cases h)
          have := (hL.H.obj j _ hi).mono (fun _ h => h) (fun _ _ => rfl) hle hu' (fun _ _ _ => rfl)
          obtain ⟨b, cs, T, fz, q1, q2, q3, q4⟩ := this
          exact ⟨b, cs, T, fz, q1, q2, q3, RVL0_own (by exact Or.inr rfl) (M.push_blk _ _ _ _ _ _) (M.push_cap _ _ _ _ _ _) (M.push_len _ _ _ _ _ _) pre q4⟩
        · rw [if_neg h2] at e
          have hu' : m'.used j := hL.H.lt j (by rw [e]; intro h; cases h)
          exact (hL.H.obj j _ e).mono (fun _ h => h) (fun _ _ => rfl) hle hu' (fun _ _ _ => rfl)
    · by_cases h1 : j = objs'.length
      · subst h1; rw [M.push_blk] at hb; cases hb
      · by_cases h2 : j' = objs'.length
        · subst h2; rw [M.push_blk] at hb'; cases hb'
        · rw [hsame _ h1] at hb; rw [hsame _ h2] at hb'
          obtain ⟨p1, k1, k2, _⟩ := hold j o h1 e
          obtain ⟨p2, k4, k5, _⟩ := hold j' o' h2 e'
          exact hL.H.inj j j' p1 p2 b k1 k4 (by rw [k2]; exact hl) (by rw [k5]; exact hl') hb hb'
    · by_cases h1 : j = objs'.length
      · subst h1; rw [M.push_blk] at hb; cases hb
      · rw [hsame _ h1] at hb
        obtain ⟨p1, k1, _, k3, _⟩ := hold j o h1 e
        exact hL.H.notI j p1 b k1 (by rw [k3]; exact hm) hb
    · by_cases h1 : j = objs'.length
      · subst h1; rw [M.push_blk] at hb; cases hb
      · rw [hsame _ h1] at hb
        obtain ⟨p1, k1, _, _, k4⟩ := hold j _ h1 e
        rw [k4 _ _ rfl] at k1
        exact hL.H.isI j t' x b k1 hb
    · rcases hj with hj | hj
      · have := hL.used j hj; simp; omega
      · subst hj; simp
    · have := hL.len; simp; omega
    · by_cases h1 : j = objs'.length
      · subst h1; rw [M.push_blk] at hb; cases hb
      · rw [hsame _ h1] at hb
        have e' : ofL (objs'.set i (.box (pre ++ .own objs'.length :: post)) ++ [.row false t []]) j = some o := e
        obtain ⟨p1, k1, k2, k3, _⟩ := hold j o h1 e'
        rcases hL.own j p1 b k1 (by rw [k2]; exact hl) hb with h | ⟨q, o', r1, r2, r3, r4⟩
        · exact .inl h
        · exact .inr ⟨q, o', r1, r2, fun hm => r3 (by rw [k3]; exact hm), r4⟩
  · exact hS.elim
theorem RVL0_move {I : Nat → Prop} {w : World} {m m' : M} {j k : Nat} (hle : m.le m') (hk : ∀ ao len cap, RO m j ao len cap → RO m' k ao len cap) : ∀ (pre : List AV) {post : List AV} {r : List Value}, RVL0 I w m (pre ++ .own j :: post) r → RVL0 I w m' (pre ++ .own k :: post) r
  | [], post, v :: r, h => by
    obtain ⟨ao, len, cap, e, hO⟩ := h.1
    exact ⟨⟨ao, len, cap, e, hk _ _ _ hO⟩, RVL0_mono (fun _ h => h) (fun _ _ => rfl) hle _ _ h.2⟩
  | a :: pre, post, v :: r, h => ⟨RV0_mono (fun _ h => h) (fun _ _ => rfl) hle _ _ h.1, RVL0_move hle hk pre h.2⟩
  | [], _, [], h => h.elim
  | _ :: _, _, [], h => h.elim
/-- A row in a box may be told by a new number. -/
def moved (l : List Obj) (i j : Nat) (pre post : List AV) (t : Ty) (x : List t.den) : List Obj := ((l.set i (.box (pre ++ .own l.length :: post))).set j .dead) ++ [.row false t x]
theorem rw_move {f g : List AV → List Obj → Option (Prop × AV × List Obj)} (hs : SoundS P id (RwF f).sum)
    (h : ∀ args objs p v o, g args objs = some (p, v, o) → ∃ l, f args objs = some (p, v, l) ∧ (o = l ∨ ∃ i j pre post t x, l[i]? = some (.box (pre ++ .own j :: post)) ∧ l[j]? = some (.row false t x) ∧ o = moved l i j pre post t x)) : SoundS P id (RwF g).sum := by
  refine ⟨hs.1, rw_det g, fun {I w m args cargs objs K} hH hA hu hS => ?_⟩
  simp only [RwF, SumK.sum] at hS
  split at hS
  · rename_i p v o e0
    obtain ⟨hp, hk⟩ := need_both hS
    obtain ⟨l, hf, hor⟩ := h args objs p v o e0
    clear e0
    have hS' : (RwF f).sum args objs fun v' o' => v' = v ∧ o' = l := by
      unfold RwF SumK.sum; simp only; rw [hf]; exact need_of hp fun _ => ⟨rfl, rfl⟩
    refine (hs.2.2 hH hA hu hS').mono ?_
    rintro e w' ⟨v', cv, objs', I', m', rfl, ⟨rfl, rfl⟩, hL⟩
    rcases hor with rfl | ⟨i, j, pre, post, t, x, hi, hj, rfl⟩
    · exact ⟨v', cv, _, I', m', rfl, hk, hL⟩
    have hnu : ¬ m'.used objs'.length := fun h => absurd (hL.used _ h) (Nat.lt_irrefl _)
    have hle : m'.le (m'.push objs'.length (m'.blk j) (m'.cap j) (m'.len j) (m'.sz j)) := M.push_le hnu
    have hilt : i < objs'.length := (List.getElem?_eq_some_iff.1 hi).1
    have hjlt : j < objs'.length := (List.getElem?_eq_some_iff.1 hj).1
    have hij : i ≠ j := fun e => by subst e; rw [hi] at hj; cases hj
    have hget : ∀ q, ofL (moved objs' i j pre post t x) q = if q = objs'.length then some (.row false t x) else if q = j then some .dead else if q = i then some (.box (pre ++ .own objs'.length :: post)) else ofL objs' q := fun q => by
      unfold ofL moved
      by_cases h1 : q = objs'.length
      · subst h1; rw [if_pos rfl, List.getElem?_append_right (by simp)]; simp
      · rw [if_neg h1]
        by_cases h2 : q = j
        · subst h2; rw [if_pos rfl, List.getElem?_append_left (by simpa using hjlt), List.getElem?_set_self (by simpa using hjlt)]
        · rw [if_neg h2]
          by_cases h3 : q = i
          · subst h3; rw [if_pos rfl, List.getElem?_append_left (by simpa using hilt), List.getElem?_set_ne (fun e => h2 e.symm), List.getElem?_set_self (by simpa using hilt)]
          · rw [if_neg h3]
            by_cases h4 : q < objs'.length
            · rw [List.getElem?_append_left (by simpa using h4), List.getElem?_set_ne (fun e => h2 e.symm), List.getElem?_set_ne (fun e => h3 e.symm)]
            · rw [List.getElem?_eq_none (by simp; omega), List.getElem?_eq_none (by omega)]
    have hblk : ∀ q, q ≠ objs'.length → (m'.push objs'.length (m'.blk j) (m'.cap j) (m'.len j) (m'.sz j)).blk q = m'.blk q := fun q hq => if_neg hq
    have hold : ∀ q o, q ≠ objs'.length → ofL (moved objs' i j pre post t x) q = some o → o.live = true → q ≠ j ∧ ∃ o', ofL objs' q = some o' ∧ o'.live = o.live ∧ o'.mut = o.mut ∧ (∀ t x, o = .row true t x → o' = o) := fun q o hq e hl => by
      rw [hget, if_neg hq] at e
      split at e
      · cases e; cases hl
      · rename_i h2
        split at e
        · rename_i h3; subst h3; cases e; exact ⟨h2, _, hi, rfl, rfl, fun _ _ h => by cases h⟩
        · exact ⟨h2, o, e, rfl, rfl, fun _ _ _ => rfl⟩
    have hRO : ∀ ao len cap, RO m' j ao len cap → RO (m'.push objs'.length (m'.blk j) (m'.cap j) (m'.len j) (m'.sz j)) objs'.length ao len cap := fun ao len cap ⟨_, r2, r3, r4, r5, r6⟩ =>
      ⟨by exact Or.inr rfl, by rw [M.push_len]; exact r2, by rw [M.push_cap]; exact r3, r4, r5, by rw [M.push_blk]; exact r6⟩
    have ml : ∀ {o : Obj}, o.mut = true → o.live = true := fun {o} h => by cases o <;> first | rfl | cases h
    have hj' : ofL objs' j = some (.row false t x) := hj
    refine ⟨v', cv, _, I', m'.push objs'.length (m'.blk j) (m'.cap j) (m'.len j) (m'.sz j), rfl, hk, ⟨RV_mono (fun _ h => h) (fun _ _ => rfl) hle _ _ hL.rv, ⟨fun q hq => ?_, fun q o e => ?_, fun q q' o o' b e e' hl hl' hb hb' => ?_, fun q o b e hm hb => ?_, fun q t' x' b e hb => ?_, hL.H.Ilt⟩, hL.E.trans ⟨fun _ h => h, fun _ _ => rfl, hle⟩, fun q hq => ?_, ?_, hL.fr, hL.new, fun q o b e hl hb => ?_⟩⟩
    · by_cases h1 : q = objs'.length
      · exact .inr h1
      · refine .inl ?_
        by_cases h2 : q = j
        · subst h2; exact hL.H.lt q (by rw [hj']; intro h; cases h)
        · by_cases h3 : q = i
          · subst h3; exact hL.H.lt q (by have hi' : ofL objs' q = _ := hi; rw [hi']; intro h; cases h)
          · rw [hget, if_neg h1, if_neg h2, if_neg h3] at hq
            exact hL.H.lt q hq
    · by_cases h1 : q = objs'.length
      · subst h1
        rw [hget, if_pos rfl] at e; cases e
        obtain ⟨q1, q2, q3, q4, q5⟩ := hL.H.obj j _ hj'
        exact ⟨by rw [M.push_sz]; exact q1, by rw [M.push_len]; exact q2, by rw [M.push_cap]; exact q3, by rw [M.push_cap]; exact q4, by rw [M.push_blk, M.push_cap]; exact q5⟩
      · rw [hget, if_neg h1] at e
        by_cases h2 : q = j
        · subst h2; rw [if_pos rfl] at e; cases e; trivial
        · rw [if_neg h2] at e
          by_cases h3 : q = i
          · subst h3
            rw [if_pos rfl] at e; cases e
            obtain ⟨b, cs, T, fz, q1, q2, q3, q4⟩ := hL.H.obj q _ hi
            exact ⟨b, cs, T, fz, by rw [hblk _ h1]; exact q1, q2, q3, RVL0_move hle hRO pre q4⟩
          · rw [if_neg h3] at e
            have hu' : m'.used q := hL.H.lt q (by rw [e]; intro h; cases h)
            exact (hL.H.obj q _ e).mono (fun _ h => h) (fun _ _ => rfl) hle hu' (fun _ _ _ => rfl)
    · by_cases h1 : q = objs'.length
      · subst h1
        rw [M.push_blk] at hb
        by_cases h2 : q' = objs'.length
        · exact h2.symm
        · rw [hblk _ h2] at hb'
          obtain ⟨n1, p1, k1, k2, _⟩ := hold q' o' h2 e' hl'
          exact absurd (hL.H.inj j q' _ p1 b hj' k1 rfl (by rw [k2]; exact hl') hb hb').symm n1
      · rw [hblk _ h1] at hb
        obtain ⟨n1, p1, k1, k2, _⟩ := hold q o h1 e hl
        by_cases h2 : q' = objs'.length
        · subst h2
          rw [M.push_blk] at hb'
          exact absurd (hL.H.inj q j p1 _ b k1 hj' (by rw [k2]; exact hl) rfl hb hb') n1
        · rw [hblk _ h2] at hb'
          obtain ⟨_, p2, k4, k5, _⟩ := hold q' o' h2 e' hl'
          exact hL.H.inj q q' p1 p2 b k1 k4 (by rw [k2]; exact hl) (by rw [k5]; exact hl') hb hb'
    · by_cases h1 : q = objs'.length
      · subst h1; rw [M.push_blk] at hb
        exact hL.H.notI j _ b hj' rfl hb
      · rw [hblk _ h1] at hb
        obtain ⟨_, p1, k1, _, k3, _⟩ := hold q o h1 e (ml hm)
        exact hL.H.notI q p1 b k1 (by rw [k3]; exact hm) hb
    · by_cases h1 : q = objs'.length
      · subst h1; rw [hget, if_pos rfl] at e; cases e
      · rw [hblk _ h1] at hb
        obtain ⟨_, p1, k1, _, _, k4⟩ := hold q _ h1 e rfl
        rw [k4 _ _ rfl] at k1
        exact hL.H.isI q t' x' b k1 hb
    · have hlm : (moved objs' i j pre post t x).length = objs'.length + 1 := by unfold moved; simp
      rw [hlm]
      rcases hq with hq | hq
      · have := hL.used q hq; omega
      · omega
    · have := hL.len
      have hlm : (moved objs' i j pre post t x).length = objs'.length + 1 := by unfold moved; simp
      omega
    · by_cases h1 : q = objs'.length
      · subst h1; rw [M.push_blk] at hb
        have e' : ofL (moved objs' i j pre post t x) objs'.length = some o := e
        rw [hget, if_pos rfl] at e'; cases e'
        rcases hL.own j _ b hj' rfl hb with h | ⟨s, o', r1, r2, r3, r4⟩
        · exact .inl h
        · exact .inr ⟨s, o', r1, r2, fun hm => r3 rfl, r4⟩
      · rw [hblk _ h1] at hb
        have e' : ofL (moved objs' i j pre post t x) q = some o := e
        obtain ⟨_, p1, k1, k2, k3, _⟩ := hold q o h1 e' hl
        rcases hL.own q p1 b k1 (by rw [k2]; exact hl) hb with h | ⟨s, o', r1, r2, r3, r4⟩
        · exact .inl h
        · exact .inr ⟨s, o', r1, r2, fun hm => r3 (by rw [k3]; exact hm), r4⟩
  · exact hS.elim
/-- A thing may be given up. -/
theorem rw_kill {f g : List AV → List Obj → Option (Prop × AV × List Obj)} (hs : SoundS P id (RwF f).sum)
    (h : ∀ args objs p v o, g args objs = some (p, v, o) → ∃ l j, f args objs = some (p, v, l) ∧ j < l.length ∧ o = l.set j .dead) : SoundS P id (RwF g).sum := by
  refine ⟨hs.1, rw_det g, fun {I w m args cargs objs K} hH hA hu hS => ?_⟩
  simp only [RwF, SumK.sum] at hS
  split at hS
  · rename_i p v o e0
    obtain ⟨hp, hk⟩ := need_both hS
    obtain ⟨l, j, hf, hjl, ho⟩ := h args objs p v o e0
    clear e0
    subst ho
    have hS' : (RwF f).sum args objs fun v' o' => v' = v ∧ o' = l := by
      unfold RwF SumK.sum; simp only; rw [hf]; exact need_of hp fun _ => ⟨rfl, rfl⟩
    refine (hs.2.2 hH hA hu hS').mono ?_
    rintro e w' ⟨v', cv, objs', I', m', rfl, ⟨rfl, rfl⟩, hL⟩
    have hget : ∀ q, ofL (objs'.set j .dead) q = if q = j then some .dead else ofL objs' q := fun q => by
      unfold ofL
      by_cases h1 : q = j
      · subst h1; rw [if_pos rfl, List.getElem?_set_self hjl]
      · rw [if_neg h1, List.getElem?_set_ne (fun e => h1 e.symm)]
    have hold : ∀ q o, ofL (objs'.set j .dead) q = some o → o.live = true → ofL objs' q = some o := fun q o e hl => by
      rw [hget] at e
      split at e
      · cases e; cases hl
      · exact e
    have ml : ∀ {o : Obj}, o.mut = true → o.live = true := fun {o} h => by cases o <;> first | rfl | cases h
    refine ⟨v', cv, _, I', m', rfl, hk, ⟨hL.rv, ⟨fun q hq => ?_, fun q o e => ?_, fun q q' o o' b e e' hl hl' hb hb' => hL.H.inj q q' o o' b (hold _ _ e hl) (hold _ _ e' hl') hl hl' hb hb', fun q o b e hm hb => hL.H.notI q o b (hold _ _ e (ml hm)) hm hb, fun q t x b e hb => hL.H.isI q t x b (hold _ _ e rfl) hb, hL.H.Ilt⟩, hL.E, fun q hq => by rw [List.length_set]; exact hL.used q hq, by rw [List.length_set]; exact hL.len, hL.fr, hL.new, fun q o b e hl hb => hL.own q o b (hold q o e hl) hl hb⟩⟩
    · by_cases h1 : q = j
      · subst h1; exact hL.H.lt q (by unfold ofL; rw [List.getElem?_eq_getElem hjl]; intro h; cases h)
      · rw [hget, if_neg h1] at hq; exact hL.H.lt q hq
    · rw [hget] at e
      split at e
      · cases e; trivial
      · exact hL.H.obj q o e
  · exact hS.elim
theorem rc_rw {W : List AV → List Obj → Option (Prop × Res)} (hs : SoundS P id (RcF W).sum) : SoundS P id (RwF (pkF W)).sum := by rw [← rc_sum]; exact hs
theorem pick_t {b : Bool} {x y : Res} (h : b = true) : (Res.br b x y).pick = x.pick := if_pos h
theorem pick_f {b : Bool} {x y : Res} (h : b = false) : (Res.br b x y).pick = y.pick := if_neg (by rw [h]; simp)
theorem rc_move {W : List AV → List Obj → Option (Prop × Res)} {g : List AV → List Obj → Option (Prop × AV × List Obj)} (hs : SoundS P id (RcF W).sum)
    (h : ∀ args objs p v o, g args objs = some (p, v, o) → ∃ r l, W args objs = some (p, r) ∧ r.pick = (v, l) ∧ (o = l ∨ ∃ i j pre post t x, l[i]? = some (.box (pre ++ .own j :: post)) ∧ l[j]? = some (.row false t x) ∧ o = moved l i j pre post t x)) : SoundS P id (RwF g).sum :=
  rw_move (rc_rw hs) fun args objs p v o e => by
    obtain ⟨r, l, h1, h2, h3⟩ := h args objs p v o e
    refine ⟨l, ?_, h3⟩
    unfold pkF; rw [h1]; simp only; rw [h2]
theorem rc_kill {W : List AV → List Obj → Option (Prop × Res)} {g : List AV → List Obj → Option (Prop × AV × List Obj)} (hs : SoundS P id (RcF W).sum)
    (h : ∀ args objs p v o, g args objs = some (p, v, o) → ∃ r l j, W args objs = some (p, r) ∧ r.pick = (v, l) ∧ j < l.length ∧ o = l.set j .dead) : SoundS P id (RwF g).sum :=
  rw_kill (rc_rw hs) fun args objs p v o e => by
    obtain ⟨r, l, j, h1, h2, h3, h4⟩ := h args objs p v o e
    refine ⟨l, j, ?_, h3, h4⟩
    unfold pkF; rw [h1]; simp only; rw [h2]
end
end Go.Eng
