/- Summaries that are told by plain functions. No condition. -/
import Derived.Test.YtcicjbcgnkbffaaEFn
namespace Go.Eng
set_option linter.unusedVariables false
set_option linter.unusedSimpArgs false
/-- What only reads: what is owed, and the result. -/
def RoF (f : List AV → List Obj → Option (Prop × AV)) : SumK := .ro fun args objs K => match f args objs with
  | some (p, v) => need p (K v)
  | none => False
def RwF (f : List AV → List Obj → Option (Prop × AV × List Obj)) : SumK := .rw fun args objs K => match f args objs with
  | some (p, v, o) => need p (K v o)
  | none => False
theorem min_i64 : IntKind.i64.min = -9223372036854775808 := rfl
theorem max_i64 : IntKind.i64.max = 9223372036854775807 := rfl
theorem min_u64 : IntKind.u64.min = 0 := rfl
theorem max_u64 : IntKind.u64.max = 18446744073709551615 := rfl
theorem min_u32 : IntKind.u32.min = 0 := rfl
theorem max_u32 : IntKind.u32.max = 4294967295 := rfl
theorem min_u16 : IntKind.u16.min = 0 := rfl
theorem max_u16 : IntKind.u16.max = 65535 := rfl
theorem min_u8 : IntKind.u8.min = 0 := rfl
theorem max_u8 : IntKind.u8.max = 255 := rfl
theorem tmod_nn {a b : Int} (h : 0 ≤ a) : a.tmod b = a % b := Int.tmod_eq_emod_of_nonneg h
theorem tdiv_nn {a b : Int} (h : 0 ≤ a) : a.tdiv b = a / b := Int.tdiv_eq_ediv_of_nonneg h
section
variable {P : Program} {Γ : Env} {id : FuncId} {fn : Func} {ir : IR} {rd : List RD}
theorem ro_det (f : List AV → List Obj → Option (Prop × AV)) : Det (RoF f).sum := fun {args objs K} h => by
  simp only [RoF, SumK.sum] at h ⊢
  split at h
  · rename_i p v e
    obtain ⟨hp, hk⟩ := need_both h
    exact ⟨v, objs, hk, need_of hp fun _ => ⟨rfl, rfl⟩⟩
  · exact h.elim
theorem rw_det (f : List AV → List Obj → Option (Prop × AV × List Obj)) : Det (RwF f).sum := fun {args objs K} h => by
  simp only [RwF, SumK.sum] at h ⊢
  split at h
  · rename_i p v o e
    obtain ⟨hp, hk⟩ := need_both h
    exact ⟨v, o, hk, need_of hp fun _ => ⟨rfl, rfl⟩⟩
  · exact h.elim
/-- The summary of one call alone. -/
def One (args : List AV) (objs : List Obj) (v : AV) (o : List Obj) : Sum := fun a b K => a = args ∧ b = objs ∧ K v o
theorem one_calls (hf : P.funcs[id]? = some fn) (hok : fnOk P fn ir rd = true) (hΓ : EnvOk P Γ) {args : List AV} {objs : List Obj} {v : AV} {o : List Obj} (hl : args.length = fn.params.size)
    (h : (∀ v ∈ args, v.wf1) → (∀ o ∈ objs, o.wf) → evFn Γ ir rd args objs fun v' o' => v' = v ∧ o' = o) : SoundS P id fun a b K => a = args ∧ b = objs ∧ ((fun v' o' => v' = v ∧ o' = o) = K) := by
  refine fn_sound hf hok hΓ (fun {a b K} hk => ?_) (fun a b K hk => by rw [hk.1]; exact hl) (fun a b K hw ho hk => ?_)
  · obtain ⟨rfl, rfl, rfl⟩ := hk
    exact ⟨v, o, ⟨rfl, rfl⟩, rfl, rfl, rfl⟩
  · obtain ⟨rfl, rfl, rfl⟩ := hk
    exact h hw ho
theorem ro_fn {f : List AV → List Obj → Option (Prop × AV)} (hf : P.funcs[id]? = some fn) (hok : fnOk P fn ir rd = true) (hΓ : EnvOk P Γ)
    (h : ∀ args objs p v, f args objs = some (p, v) → args.length = fn.params.size ∧ ((∀ v ∈ args, v.wf1) → (∀ o ∈ objs, o.wf) → p → evFn Γ ir rd args objs fun v' o' => v' = v ∧ o' = objs)) : SoundS P id (RoF f).sum := by
  have hc : Callable P id := by
    unfold fnOk at hok
    split at hok
    · rename_i c hb
      simp only [Bool.and_eq_true, decide_eq_true_eq, Bool.not_eq_true'] at hok
      exact ⟨fn, hf, hok.2, by rw [hb]; rfl⟩
    · cases hok
  refine ⟨hc, ro_det f, fun {I w m args cargs objs K} hH hA hu hS => ?_⟩
  simp only [RoF, SumK.sum] at hS
  split at hS
  · rename_i p v e
    obtain ⟨hp, hk⟩ := need_both hS
    obtain ⟨hl, hev⟩ := h args objs p v e
    have := one_calls hf hok hΓ (v := v) (o := objs) hl fun hw ho => hev hw ho hp
    refine (this.2.2 hH hA hu ⟨rfl, rfl, rfl⟩).mono ?_
    rintro e w' ⟨v', cv, objs', I', m', h1, ⟨rfl, rfl⟩, h3⟩
    exact ⟨v', cv, objs', I', m', h1, hk, h3⟩
  · exact hS.elim
theorem rw_fn {f : List AV → List Obj → Option (Prop × AV × List Obj)} (hf : P.funcs[id]? = some fn) (hok : fnOk P fn ir rd = true) (hΓ : EnvOk P Γ)
    (h : ∀ args objs p v o, f args objs = some (p, v, o) → args.length = fn.params.size ∧ ((∀ v ∈ args, v.wf1) → (∀ o ∈ objs, o.wf) → p → evFn Γ ir rd args objs fun v' o' => v' = v ∧ o' = o)) : SoundS P id (RwF f).sum := by
  have hc : Callable P id := by
    unfold fnOk at hok
    split at hok
    · rename_i c hb
      simp only [Bool.and_eq_true, decide_eq_true_eq, Bool.not_eq_true'] at hok
      exact ⟨fn, hf, hok.2, by rw [hb]; rfl⟩
    · cases hok
  refine ⟨hc, rw_det f, fun {I w m args cargs objs K} hH hA hu hS => ?_⟩
  simp only [RwF, SumK.sum] at hS
  split at hS
  · rename_i p v o e
    obtain ⟨hp, hk⟩ := need_both hS
    obtain ⟨hl, hev⟩ := h args objs p v o e
    have := one_calls hf hok hΓ (v := v) (o := o) hl fun hw ho => hev hw ho hp
    refine (this.2.2 hH hA hu ⟨rfl, rfl, rfl⟩).mono ?_
    rintro e w' ⟨v', cv, objs', I', m', h1, ⟨rfl, rfl⟩, h3⟩
    exact ⟨v', cv, objs', I', m', h1, hk, h3⟩
  · exact hS.elim
/-- Up to a measure. -/
def upF (f : List AV → List Obj → Option (Prop × AV)) (μ : List AV → Nat) (N : Nat) : List AV → List Obj → Option (Prop × AV) := fun args objs => match f args objs with
  | some (p, v) => some (p ∧ μ args < N, v)
  | none => none
/-- A function that calls itself. -/
theorem ro_rec {f : List AV → List Obj → Option (Prop × AV)} (μ : List AV → Nat) (hf : P.funcs[id]? = some fn) (hok : fnOk P fn ir rd = true) (hΓ : EnvOk P Γ)
    (h : ∀ args objs p v, f args objs = some (p, v) → args.length = fn.params.size ∧ ((∀ v ∈ args, v.wf1) → (∀ o ∈ objs, o.wf) → p → evFn ((id, RoF (upF f μ (μ args))) :: Γ) ir rd args objs fun v' o' => v' = v ∧ o' = objs)) : SoundS P id (RoF f).sum := by
  have key : ∀ N, ∀ M ≤ N, SoundS P id (RoF (upF f μ M)).sum := fun N => by
    induction N with
    | zero =>
      intro M hM
      refine ro_fn hf hok hΓ fun args objs p v e => ?_
      unfold upF at e
      split at e
      · rename_i p' v' e'
        cases e
        exact ⟨(h args objs _ _ e').1, fun _ _ hp => absurd hp.2 (by omega)⟩
      · cases e
    | succ N ih =>
      intro M hM
      rcases Nat.lt_or_ge N M with hlt | hge
      · have hM' : M = N + 1 := by omega
        subst hM'
        have one : ∀ args objs p v, f args objs = some (p, v) → μ args < N + 1 → args.length = fn.params.size ∧ ((∀ v ∈ args, v.wf1) → (∀ o ∈ objs, o.wf) → p → SoundS P id fun a b K => a = args ∧ b = objs ∧ ((fun v' o' => v' = v ∧ o' = objs) = K)) := fun args objs p v e hm => by
          obtain ⟨hl, hev⟩ := h args objs p v e
          refine ⟨hl, fun hw ho hp => ?_⟩
          exact one_calls hf hok (Γ := (id, RoF (upF f μ (μ args))) :: Γ) (env_cons (ih (μ args) (by omega)) hΓ) hl fun _ _ => hev hw ho hp
        have hc := (ih 0 (Nat.zero_le _)).1
        refine ⟨hc, ro_det _, fun {I w m args cargs objs K} hH hA hu hS => ?_⟩
        simp only [RoF, SumK.sum, upF] at hS
        split at hS
        · rename_i p v e
          split at e
          · rename_i p' v' e'
            cases e
            obtain ⟨hp, hk⟩ := need_both hS
            obtain ⟨hl, hs⟩ := one args objs _ _ e' hp.2
            have hw : ∀ v ∈ args, v.wf1 := RVL2_wf hA
            have ho : ∀ o ∈ objs, o.wf := fun o ho => by
              obtain ⟨i, hi, rfl⟩ := List.mem_iff_getElem.1 ho
              exact ObjOk_wf (hH.obj i _ (List.getElem?_eq_getElem hi))
            refine ((hs hw ho hp.1).2.2 hH hA hu ⟨rfl, rfl, rfl⟩).mono ?_
            rintro e w' ⟨v', cv, objs', I', m', h1, ⟨rfl, rfl⟩, h3⟩
            exact ⟨v', cv, objs', I', m', h1, hk, h3⟩
          · cases e
        · exact hS.elim
      · exact ih M hge
  refine ⟨(key 0 0 (Nat.le_refl _)).1, ro_det f, fun {I w m args cargs objs K} hH hA hu hS => ?_⟩
  simp only [RoF, SumK.sum] at hS
  split at hS
  · rename_i p v e
    obtain ⟨hp, hk⟩ := need_both hS
    refine (key _ (μ args + 1) (Nat.le_refl _)).2.2 hH hA hu ?_
    simp only [RoF, SumK.sum, upF, e]
    exact need_of ⟨hp, Nat.lt_succ_self _⟩ fun _ => hk
  · exact hS.elim
/-- The same, of what writes. -/
def upW (f : List AV → List Obj → Option (Prop × AV × List Obj)) (μ : List AV → Nat) (N : Nat) : List AV → List Obj → Option (Prop × AV × List Obj) := fun args objs => match f args objs with
  | some (p, v, o) => some (p ∧ μ args < N, v, o)
  | none => none
theorem rw_recE (E : Nat → SumK) {f : List AV → List Obj → Option (Prop × AV × List Obj)} (μ : List AV → Nat) (hE : ∀ M, SoundS P id (RwF (upW f μ M)).sum → SoundS P id (E M).sum) (hf : P.funcs[id]? = some fn) (hok : fnOk P fn ir rd = true) (hΓ : EnvOk P Γ)
    (h : ∀ args objs p v o, f args objs = some (p, v, o) → args.length = fn.params.size ∧ ((∀ v ∈ args, v.wf1) → (∀ o ∈ objs, o.wf) → p → evFn ((id, E (μ args)) :: Γ) ir rd args objs fun v' o' => v' = v ∧ o' = o)) : SoundS P id (RwF f).sum := by
  have key : ∀ N, ∀ M ≤ N, SoundS P id (RwF (upW f μ M)).sum := fun N => by
    induction N with
    | zero =>
      intro M hM
      refine rw_fn hf hok hΓ fun args objs p v o e => ?_
      unfold upW at e
      split at e
      · rename_i p' v' o' e'
        cases e
        exact ⟨(h args objs _ _ _ e').1, fun _ _ hp => absurd hp.2 (by omega)⟩
      · cases e
    | succ N ih =>
      intro M hM
      rcases Nat.lt_or_ge N M with hlt | hge
      · have hM' : M = N + 1 := by omega
        subst hM'
        have one : ∀ args objs p v o, f args objs = some (p, v, o) → μ args < N + 1 → args.length = fn.params.size ∧ ((∀ v ∈ args, v.wf1) → (∀ o ∈ objs, o.wf) → p → SoundS P id fun a b K => a = args ∧ b = objs ∧ ((fun v' o' => v' = v ∧ o' = o) = K)) := fun args objs p v o e hm => by
          obtain ⟨hl, hev⟩ := h args objs p v o e
          refine ⟨hl, fun hw ho hp => ?_⟩
          exact one_calls hf hok (Γ := (id, E (μ args)) :: Γ) (env_cons (hE _ (ih (μ args) (by omega))) hΓ) hl fun _ _ => hev hw ho hp
        have hc := (ih 0 (Nat.zero_le _)).1
        refine ⟨hc, rw_det _, fun {I w m args cargs objs K} hH hA hu hS => ?_⟩
        simp only [RwF, SumK.sum, upW] at hS
        split at hS
        · rename_i p v o e
          split at e
          · rename_i p' v' o' e'
            cases e
            obtain ⟨hp, hk⟩ := need_both hS
            obtain ⟨hl, hs⟩ := one args objs _ _ _ e' hp.2
            have hw : ∀ v ∈ args, v.wf1 := RVL2_wf hA
            have ho : ∀ o ∈ objs, o.wf := fun o ho => by
              obtain ⟨i, hi, rfl⟩ := List.mem_iff_getElem.1 ho
              exact ObjOk_wf (hH.obj i _ (List.getElem?_eq_getElem hi))
            refine ((hs hw ho hp.1).2.2 hH hA hu ⟨rfl, rfl, rfl⟩).mono ?_
            rintro e w' ⟨v', cv, objs', I', m', h1, ⟨rfl, rfl⟩, h3⟩
            exact ⟨v', cv, objs', I', m', h1, hk, h3⟩
          · cases e
        · exact hS.elim
      · exact ih M hge
  refine ⟨(key 0 0 (Nat.le_refl _)).1, rw_det f, fun {I w m args cargs objs K} hH hA hu hS => ?_⟩
  simp only [RwF, SumK.sum] at hS
  split at hS
  · rename_i p v o e
    obtain ⟨hp, hk⟩ := need_both hS
    refine (key _ (μ args + 1) (Nat.le_refl _)).2.2 hH hA hu ?_
    simp only [RwF, SumK.sum, upW, e]
    exact need_of ⟨hp, Nat.lt_succ_self _⟩ fun _ => hk
  · exact hS.elim
theorem rw_rec {f : List AV → List Obj → Option (Prop × AV × List Obj)} (μ : List AV → Nat) (hf : P.funcs[id]? = some fn) (hok : fnOk P fn ir rd = true) (hΓ : EnvOk P Γ)
    (h : ∀ args objs p v o, f args objs = some (p, v, o) → args.length = fn.params.size ∧ ((∀ v ∈ args, v.wf1) → (∀ o ∈ objs, o.wf) → p → evFn ((id, RwF (upW f μ (μ args))) :: Γ) ir rd args objs fun v' o' => v' = v ∧ o' = o)) : SoundS P id (RwF f).sum :=
  rw_recE (fun M => RwF (upW f μ M)) μ (fun _ h => h) hf hok hΓ h
/-- Results whose shape hangs on what is so: a tree of tests. -/
inductive Res where
  | one (v : AV) (o : List Obj)
  | br (b : Bool) (x y : Res)
def Res.pick : Res → AV × List Obj
  | .one v o => (v, o)
  | .br b x y => if b = true then x.pick else y.pick
def Res.run : Res → (AV → List Obj → Prop) → Prop
  | .one v o, K => K v o
  | .br b x y, K => cnd b (x.run K) (y.run K)
theorem Res.run_pick : ∀ (r : Res) (K : AV → List Obj → Prop), r.run K ↔ K r.pick.1 r.pick.2
  | .one _ _, _ => Iff.rfl
  | .br b x y, K => by
    unfold Res.run Res.pick
    cases b with
    | true => rw [if_pos rfl, ← Res.run_pick x K]; exact ⟨fun h => h true rfl, fun h t e => by subst e; exact h⟩
    | false => rw [if_neg (by simp), ← Res.run_pick y K]; exact ⟨fun h => h false rfl, fun h t e => by subst e; exact h⟩
def RcF (f : List AV → List Obj → Option (Prop × Res)) : SumK := .rw fun args objs K => match f args objs with
  | some (p, r) => need p (r.run K)
  | none => False
def pkF (f : List AV → List Obj → Option (Prop × Res)) : List AV → List Obj → Option (Prop × AV × List Obj) := fun args objs => match f args objs with
  | some (p, r) => some (p, r.pick.1, r.pick.2)
  | none => none
theorem rc_sum {f : List AV → List Obj → Option (Prop × Res)} : (RcF f).sum = (RwF (pkF f)).sum := funext fun args => funext fun objs => funext fun K => propext (by
  simp only [RcF, RwF, SumK.sum, pkF]
  cases f args objs with
  | none => exact Iff.rfl
  | some x => exact ⟨fun h => need_of (need_both h).1 fun _ => (Res.run_pick _ _).1 (need_both h).2, fun h => need_of (need_both h).1 fun _ => (Res.run_pick _ _).2 (need_both h).2⟩)
theorem pk_some {f : List AV → List Obj → Option (Prop × Res)} {args : List AV} {objs : List Obj} {p : Prop} {v : AV} {o : List Obj} (h : pkF f args objs = some (p, v, o)) : ∃ r, f args objs = some (p, r) ∧ v = r.pick.1 ∧ o = r.pick.2 := by
  unfold pkF at h
  split at h
  · rename_i p r e; cases h; exact ⟨r, e, rfl, rfl⟩
  · cases h
theorem rc_fn {f : List AV → List Obj → Option (Prop × Res)} (hf : P.funcs[id]? = some fn) (hok : fnOk P fn ir rd = true) (hΓ : EnvOk P Γ)
    (h : ∀ args objs p r, f args objs = some (p, r) → args.length = fn.params.size ∧ ((∀ v ∈ args, v.wf1) → (∀ o ∈ objs, o.wf) → p → evFn Γ ir rd args objs fun v' o' => v' = r.pick.1 ∧ o' = r.pick.2)) : SoundS P id (RcF f).sum := by
  rw [rc_sum]
  refine rw_fn hf hok hΓ fun args objs p v o e => ?_
  obtain ⟨r, e2, rfl, rfl⟩ := pk_some e
  exact h args objs p r e2
def upC (f : List AV → List Obj → Option (Prop × Res)) (μ : List AV → Nat) (N : Nat) : List AV → List Obj → Option (Prop × Res) := fun args objs => match f args objs with
  | some (p, r) => some (p ∧ μ args < N, r)
  | none => none
theorem pk_up (f : List AV → List Obj → Option (Prop × Res)) (μ : List AV → Nat) (N : Nat) : upW (pkF f) μ N = pkF (upC f μ N) := funext fun args => funext fun objs => by
  unfold upW pkF upC
  cases f args objs <;> rfl
theorem rc_rec {f : List AV → List Obj → Option (Prop × Res)} (μ : List AV → Nat) (hf : P.funcs[id]? = some fn) (hok : fnOk P fn ir rd = true) (hΓ : EnvOk P Γ)
    (h : ∀ args objs p r, f args objs = some (p, r) → args.length = fn.params.size ∧ ((∀ v ∈ args, v.wf1) → (∀ o ∈ objs, o.wf) → p → evFn ((id, RcF (upC f μ (μ args))) :: Γ) ir rd args objs fun v' o' => v' = r.pick.1 ∧ o' = r.pick.2)) : SoundS P id (RcF f).sum := by
  rw [rc_sum]
  refine rw_recE (fun M => RcF (upC f μ M)) μ (fun M hM => by rw [rc_sum, ← pk_up]; exact hM) hf hok hΓ fun args objs p v o e => ?_
  obtain ⟨r, e2, rfl, rfl⟩ := pk_some e
  exact h args objs p r e2
/-- What hands over a row of its own is, too, what hands over data that is only read. -/
theorem ro_of_rw {t : Ty} {f : List AV → List Obj → Option (Prop × AV × List Obj)} {g : List AV → List Obj → Option (Prop × AV)} (hs : SoundS P id (RwF f).sum)
    (h : ∀ args objs p v, g args objs = some (p, v) → objs = [] ∧ ∃ x, v = .imm t x ∧ (f args [] = some (p, .own 0, [.row false t x]) ∨ (f args [] = some (p, .nils, []) ∧ x = []))) : SoundS P id (RoF g).sum := by
  refine ⟨hs.1, ro_det g, fun {I w m args cargs objs K} hH hA hu hS => ?_⟩
  simp only [RoF, SumK.sum] at hS
  split at hS
  · rename_i p v e
    obtain ⟨hp, hk⟩ := need_both hS
    obtain ⟨rfl, x, rfl, hf⟩ := h args objs p v e
    have hno : ∀ i, ¬ m.used i := fun i hi => absurd (hu i hi) (by simp)
    rcases hf with hf | ⟨hf, rfl⟩
    · have hS' : (RwF f).sum args [] fun v o => v = .own 0 ∧ o = [.row false t x] := by
        unfold RwF SumK.sum; simp only; rw [hf]; exact need_of hp fun _ => ⟨rfl, rfl⟩
      refine (hs.2.2 hH hA hu hS').mono ?_
      rintro e w' ⟨v', cv, objs', I', m', rfl, ⟨rfl, rfl⟩, hL⟩
      have hi : ofL [Obj.row false t x] 0 = some (.row false t x) := rfl
      have hok := hL.H.obj 0 _ hi
      have hrv : RV0 I' w' m' (.own 0) cv := hL.rv
      have himm := own_imm (I' := fun b => I' b ∨ m'.blk 0 = some b) (fun _ h => .inl h) hok hrv fun b hb => .inr hb
      refine ⟨.imm t x, cv, [], (fun b => I' b ∨ m'.blk 0 = some b), ⟨fun _ => none, fun _ => 0, fun _ => 0, fun _ => 0, fun _ => False⟩, rfl, hk, ⟨RV_0 himm, ⟨fun i hi => absurd rfl hi, fun i o e => (by cases e), fun i j o o' b e => (by cases e), fun i o b e => (by cases e), fun i t x b e => (by cases e), fun b hb => ?_⟩, ⟨fun b hb => .inl (hL.E.up b hb), hL.E.same, ⟨fun i hi => absurd hi (hno i), fun i hi => absurd hi (hno i)⟩⟩, fun i hi => hi.elim, Nat.le_refl _, hL.fr, fun b hb => ?_, fun i o b e => (by cases e)⟩⟩
      · rcases hb with hb | hb
        · exact hL.H.Ilt b hb
        · exact hok.lt rfl hb
      · rcases hb with hb | hb
        · exact hL.new b hb
        · rcases hL.own 0 _ b hi rfl hb with h | ⟨j, o', h, _⟩
          · exact .inr (.inl h)
          · cases h
    · have hS' : (RwF f).sum args [] fun v o => v = .nils ∧ o = [] := by
        unfold RwF SumK.sum; simp only; rw [hf]; exact need_of hp fun _ => ⟨rfl, rfl⟩
      refine (hs.2.2 hH hA hu hS').mono ?_
      rintro e w' ⟨v', cv, objs', I', m', rfl, ⟨rfl, rfl⟩, hL⟩
      have hrv : cv = .slice none 0 0 := hL.rv
      subst hrv
      exact ⟨.imm t [], _, [], I', m', rfl, hk, ⟨RV_0 ⟨none, 0, 0, rfl, rfl, Nat.le_refl _, Nat.zero_le _, fun h => absurd h (by omega)⟩, hL.H, hL.E, hL.used, hL.len, hL.fr, hL.new, hL.own⟩⟩
  · exact hS.elim
theorem ro_of_rc {t : Ty} {f : List AV → List Obj → Option (Prop × Res)} {g : List AV → List Obj → Option (Prop × AV)} (hs : SoundS P id (RcF f).sum)
    (h : ∀ args objs p v, g args objs = some (p, v) → objs = [] ∧ ∃ x r, v = .imm t x ∧ f args [] = some (p, r) ∧ (r.pick = (.own 0, [.row false t x]) ∨ (r.pick = (.nils, []) ∧ x = []))) : SoundS P id (RoF g).sum := by
  rw [rc_sum] at hs
  refine ro_of_rw (t := t) hs fun args objs p v e => ?_
  obtain ⟨h1, x, r, h2, h3, h4⟩ := h args objs p v e
  refine ⟨h1, x, h2, ?_⟩
  unfold pkF
  rw [h3]
  rcases h4 with h4 | ⟨h4, h5⟩
  · exact .inl (by simp only [h4])
  · exact .inr ⟨by simp only [h4], h5⟩
end
end Go.Eng
