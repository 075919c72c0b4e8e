/- Summaries that are told by plain functions. No condition. -/
import Derived.Test.YtcicjbcgnkbffaaEFn
namespace Go.Eng
/-- What only reads: what is owed, and the result. -/
def RoF (f : List AV → List Obj → Option (Prop × AV)) : SumK := .ro fun args objs K => match f args objs with
  | some (p, v) => need p (K v)
  | none => False
def RwF (f : List AV → List Obj → Option (Prop × AV × List Obj)) : SumK := .rw fun args objs K => match f args objs with
  | some (p, v, o) => need p (K v o)
  | none => False
theorem min_i64 : IntKind.i64.min = -9223372036854775808 := rfl
theorem max_i64 : IntKind.i64.max = 9223372036854775807 := rfl
theorem min_u64 : IntKind.u64.min = 0 := rfl
theorem max_u64 : IntKind.u64.max = 18446744073709551615 := rfl
theorem min_u32 : IntKind.u32.min = 0 := rfl
theorem max_u32 : IntKind.u32.max = 4294967295 := rfl
theorem min_u16 : IntKind.u16.min = 0 := rfl
theorem max_u16 : IntKind.u16.max = 65535 := rfl
theorem min_u8 : IntKind.u8.min = 0 := rfl
theorem max_u8 : IntKind.u8.max = 255 := rfl
theorem tmod_nn {a b : Int} (h : 0 ≤ a) : a.tmod b = a % b := Int.tmod_eq_emod_of_nonneg h
theorem tdiv_nn {a b : Int} (h : 0 ≤ a) : a.tdiv b = a / b := Int.tdiv_eq_ediv_of_nonneg h
section
variable {P : Program} {Γ : Env} {id : FuncId} {fn : Func} {ir : IR} {rd : List RD}
theorem ro_det (f : List AV → List Obj → Option (Prop × AV)) : Det (RoF f).sum := fun {args objs K} h => by
  simp only [RoF, SumK.sum] at h ⊢
  split at h
  · rename_i p v e
    obtain ⟨hp, hk⟩ := need_both h
    exact ⟨v, objs, hk, need_of hp fun _ => ⟨rfl, rfl⟩⟩
  · exact h.elim
theorem rw_det (f : List AV → List Obj → Option (Prop × AV × List Obj)) : Det (RwF f).sum := fun {args objs K} h => by
  simp only [RwF, SumK.sum] at h ⊢
  split at h
  · rename_i p v o e
    obtain ⟨hp, hk⟩ := need_both h
    exact ⟨v, o, hk, need_of hp fun _ => ⟨rfl, rfl⟩⟩
  · exact h.elim
/-- The summary of one call alone. -/
def One (args : List AV) (objs : List Obj) (v : AV) (o : List Obj) : Sum := fun a b K => a = args ∧ b = objs ∧ K v o
theorem one_calls (hf : P.funcs[id]? = some fn) (hok : fnOk P fn ir rd = true) (hΓ : EnvOk P Γ) {args : List AV} {objs : List Obj} {v : AV} {o : List Obj} (hl : args.length = fn.params.size)
    (h : (∀ v ∈ args, v.wf1) → (∀ o ∈ objs, o.wf) → evFn Γ ir rd args objs fun v' o' => v' = v ∧ o' = o) : SoundS P id fun a b K => a = args ∧ b = objs ∧ ((fun v' o' => v' = v ∧ o' = o) = K) := by
  refine fn_sound hf hok hΓ (fun {a b K} hk => ?_) (fun a b K hk => by rw [hk.1]; exact hl) (fun a b K hw ho hk => ?_)
  · obtain ⟨rfl, rfl, rfl⟩ := hk
    exact ⟨v, o, ⟨rfl, rfl⟩, rfl, rfl, rfl⟩
  · obtain ⟨rfl, rfl, rfl⟩ := hk
    exact h hw ho
theorem ro_fn {f : List AV → List Obj → Option (Prop × AV)} (hf : P.funcs[id]? = some fn) (hok : fnOk P fn ir rd = true) (hΓ : EnvOk P Γ)
    (h : ∀ args objs p v, f args objs = some (p, v) → args.length = fn.params.size ∧ ((∀ v ∈ args, v.wf1) → (∀ o ∈ objs, o.wf) → p → evFn Γ ir rd args objs fun v' o' => v' = v ∧ o' = objs)) : SoundS P id (RoF f).sum := by
  have hc : Callable P id := by
    unfold fnOk at hok
    split at hok
    · rename_i c hb
      simp only [Bool.and_eq_true, decide_eq_true_eq, Bool.not_eq_true'] at hok
      exact ⟨fn, hf, hok.2, by rw [hb]; rfl⟩
    · cases hok
  refine ⟨hc, ro_det f, fun {I w m args cargs objs K} hH hA hu hS => ?_⟩
  simp only [RoF, SumK.sum] at hS
  split at hS
  · rename_i p v e
    obtain ⟨hp, hk⟩ := need_both hS
    obtain ⟨hl, hev⟩ := h args objs p v e
    have := one_calls hf hok hΓ (v := v) (o := objs) hl fun hw ho => hev hw ho hp
    refine (this.2.2 hH hA hu ⟨rfl, rfl, rfl⟩).mono ?_
    rintro e w' ⟨v', cv, objs', I', m', h1, ⟨rfl, rfl⟩, h3⟩
    exact ⟨v', cv, objs', I', m', h1, hk, h3⟩
  · exact hS.elim
theorem rw_fn {f : List AV → List Obj → Option (Prop × AV × List Obj)} (hf : P.funcs[id]? = some fn) (hok : fnOk P fn ir rd = true) (hΓ : EnvOk P Γ)
    (h : ∀ args objs p v o, f args objs = some (p, v, o) → args.length = fn.params.size ∧ ((∀ v ∈ args, v.wf1) → (∀ o ∈ objs, o.wf) → p → evFn Γ ir rd args objs fun v' o' => v' = v ∧ o' = o)) : SoundS P id (RwF f).sum := by
  have hc : Callable P id := by
    unfold fnOk at hok
    split at hok
    · rename_i c hb
      simp only [Bool.and_eq_true, decide_eq_true_eq, Bool.not_eq_true'] at hok
      exact ⟨fn, hf, hok.2, by rw [hb]; rfl⟩
    · cases hok
  refine ⟨hc, rw_det f, fun {I w m args cargs objs K} hH hA hu hS => ?_⟩
  simp only [RwF, SumK.sum] at hS
  split at hS
  · rename_i p v o e
    obtain ⟨hp, hk⟩ := need_both hS
    obtain ⟨hl, hev⟩ := h args objs p v o e
    have := one_calls hf hok hΓ (v := v) (o := o) hl fun hw ho => hev hw ho hp
    refine (this.2.2 hH hA hu ⟨rfl, rfl, rfl⟩).mono ?_
    rintro e w' ⟨v', cv, objs', I', m', h1, ⟨rfl, rfl⟩, h3⟩
    exact ⟨v', cv, objs', I', m', h1, hk, h3⟩
  · exact hS.elim
/-- Up to a measure. -/
def upF (f : List AV → List Obj → Option (Prop × AV)) (μ : List AV → Nat) (N : Nat) : List AV → List Obj → Option (Prop × AV) := fun args objs => match f args objs with
  | some (p, v) => some (p ∧ μ args < N, v)
  | none => none
/-- A function that calls itself. -/
theorem ro_rec {f : List AV → List Obj → Option (Prop × AV)} (μ : List AV → Nat) (hf : P.funcs[id]? = some fn) (hok : fnOk P fn ir rd = true) (hΓ : EnvOk P Γ)
    (h : ∀ args objs p v, f args objs = some (p, v) → args.length = fn.params.size ∧ ((∀ v ∈ args, v.wf1) → (∀ o ∈ objs, o.wf) → p → evFn ((id, RoF (upF f μ (μ args))) :: Γ) ir rd args objs fun v' o' => v' = v ∧ o' = objs)) : SoundS P id (RoF f).sum := by
  have key : ∀ N, ∀ M ≤ N, SoundS P id (RoF (upF f μ M)).sum := fun N => by
    induction N with
    | zero =>
      intro M hM
      refine ro_fn hf hok hΓ fun args objs p v e => ?_
      unfold upF at e
      split at e
      · rename_i p' v' e'
        cases e
        exact ⟨(h args objs _ _ e').1, fun _ _ hp => absurd hp.2 (by omega)⟩
      · cases e
    | succ N ih =>
      intro M hM
      rcases Nat.lt_or_ge N M with hlt | hge
      · have hM' : M = N + 1 := by omega
        subst hM'
        have one : ∀ args objs p v, f args objs = some (p, v) → μ args < N + 1 → args.length = fn.params.size ∧ ((∀ v ∈ args, v.wf1) → (∀ o ∈ objs, o.wf) → p → SoundS P id fun a b K => a = args ∧ b = objs ∧ ((fun v' o' => v' = v ∧ o' = objs) = K)) := fun args objs p v e hm => by
          obtain ⟨hl, hev⟩ := h args objs p v e
          refine ⟨hl, fun hw ho hp => ?_⟩
          exact one_calls hf hok (Γ := (id, RoF (upF f μ (μ args))) :: Γ) (env_cons (ih (μ args) (by omega)) hΓ) hl fun _ _ => hev hw ho hp
        have hc := (ih 0 (Nat.zero_le _)).1
        refine ⟨hc, ro_det _, fun {I w m args cargs objs K} hH hA hu hS => ?_⟩
        simp only [RoF, SumK.sum, upF] at hS
        split at hS
        · rename_i p v e
          split at e
          · rename_i p' v' e'
            cases e
            obtain ⟨hp, hk⟩ := need_both hS
            obtain ⟨hl, hs⟩ := one args objs _ _ e' hp.2
            have hw : ∀ v ∈ args, v.wf1 := RVL2_wf hA
            have ho : ∀ o ∈ objs, o.wf := fun o ho => by
              obtain ⟨i, hi, rfl⟩ := List.mem_iff_getElem.1 ho
              exact ObjOk_wf (hH.obj i _ (List.getElem?_eq_getElem hi))
            refine ((hs hw ho hp.1).2.2 hH hA hu ⟨rfl, rfl, rfl⟩).mono ?_
            rintro e w' ⟨v', cv, objs', I', m', h1, ⟨rfl, rfl⟩, h3⟩
            exact ⟨v', cv, objs', I', m', h1, hk, h3⟩
          · cases e
        · exact hS.elim
      · exact ih M hge
  refine ⟨(key 0 0 (Nat.le_refl _)).1, ro_det f, fun {I w m args cargs objs K} hH hA hu hS => ?_⟩
  simp only [RoF, SumK.sum] at hS
  split at hS
  · rename_i p v e
    obtain ⟨hp, hk⟩ := need_both hS
    refine (key _ (μ args + 1) (Nat.le_refl _)).2.2 hH hA hu ?_
    simp only [RoF, SumK.sum, upF, e]
    exact need_of ⟨hp, Nat.lt_succ_self _⟩ fun _ => hk
  · exact hS.elim
end
end Go.Eng
