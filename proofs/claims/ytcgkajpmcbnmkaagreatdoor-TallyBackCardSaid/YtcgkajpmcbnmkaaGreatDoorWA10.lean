/- Parts of the proof: EArg, TY. No condition. -/
import Derived.Test.YtcgkajpmcbnmkaaGreatDoorWA09
import Derived.WalkKit
import Derived.ProofKit
import Derived.OpenShut
import Derived.ShutString
import Derived.ChangeOld
import Derived.Carry
namespace Go.Eng
set_option linter.unusedVariables false
set_option linter.unusedSimpArgs false
def castO {β : Type _} (t' t : Ty) (x : List t'.den) (F : List t.den → Option β) : Option β := match decEq t' t with | isTrue h => F (h ▸ x) | isFalse _ => none
theorem castO_ty {β : Type _} {t' t : Ty} {x : List t'.den} {F : List t.den → Option β} {y : β} (h : castO t' t x F = some y) : t' = t := by
  unfold castO at h
  split at h
  · assumption
  · cases h
theorem castO_self {β : Type _} {t : Ty} {x : List t.den} {F : List t.den → Option β} : castO t t x F = F x := by
  unfold castO
  split
  · rfl
  · rename_i h _; exact absurd rfl h
theorem castO_go {β : Type _} {t : Ty} {x : List t.den} {F : List t.den → Option β} {y : β} (h : castO t t x F = some y) : F x = some y := by rw [castO_self] at h; exact h
def RoF (f : List AV → List Obj → Option (Prop × AV)) : SumK := .ro fun args objs K => match f args objs with
  | some (p, v) => need p (K v)
  | none => False
def RwF (f : List AV → List Obj → Option (Prop × AV × List Obj)) : SumK := .rw fun args objs K => match f args objs with
  | some (p, v, o) => need p (K v o)
  | none => False
theorem min_i64 : IntKind.i64.min = -9223372036854775808 := rfl
theorem max_i64 : IntKind.i64.max = 9223372036854775807 := rfl
theorem min_u64 : IntKind.u64.min = 0 := rfl
theorem max_u64 : IntKind.u64.max = 18446744073709551615 := rfl
theorem bn_s : (∀ a b : Bool, ((!a) = b) = (a = !b)) ∧ ((!true) = false) ∧ ((!false) = true) ∧ (∀ a b : Bool, ((a && b) = true) = (a = true ∧ b = true)) ∧ (∀ a b : Bool, ((a && b) = false) = (a = false ∨ b = false)) ∧ (∀ (p : Prop) [Decidable p], (decide p = true) = p) ∧ ∀ (p : Prop) [Decidable p], (decide p = false) = ¬ p :=
  ⟨fun _ _ => propext Bool.not_eq_eq_eq_not, rfl, rfl, fun _ _ => Bool.and_eq_true _ _, fun _ _ => propext Bool.and_eq_false_iff, fun _ _ => decide_eq_true_eq, fun _ _ => propext decide_eq_false_iff_not⟩
theorem nd_s : (∀ n : Nat, ((n : Int)).toNat = n) ∧ ∀ k : IntKind, (Ty.int k).dflt = (0 : Int) := ⟨Int.toNat_natCast, fun _ => rfl⟩
theorem mm_s : IntKind.i64.min = -9223372036854775808 ∧ IntKind.i64.max = 9223372036854775807 ∧ IntKind.u64.min = 0 ∧ IntKind.u64.max = 18446744073709551615 ∧ IntKind.u32.min = 0 ∧ IntKind.u32.max = 4294967295 ∧ IntKind.u16.min = 0 ∧ IntKind.u16.max = 65535 ∧ IntKind.u8.min = 0 ∧ IntKind.u8.max = 255 := ⟨rfl, rfl, rfl, rfl, rfl, rfl, rfl, rfl, rfl, rfl⟩
theorem cast_rfl {t : Ty} (h : t = t) (x : List t.den) : (h ▸ x : List t.den) = x := rfl
section
variable {P : Program} {Γ : Env} {id : FuncId} {fn : Func} {ir : IR} {rd : List RD}
theorem ro_det (f : List AV → List Obj → Option (Prop × AV)) : Det (RoF f).sum := fun {args objs K} h => by
  simp only [RoF, SumK.sum] at h ⊢
  split at h
  · rename_i p v e
    obtain ⟨hp, hk⟩ := need_both h
    exact ⟨v, objs, hk, need_of hp fun _ => ⟨rfl, rfl⟩⟩
  · exact h.elim
theorem rw_det (f : List AV → List Obj → Option (Prop × AV × List Obj)) : Det (RwF f).sum := fun {args objs K} h => by
  simp only [RwF, SumK.sum] at h ⊢
  split at h
  · rename_i p v o e
    obtain ⟨hp, hk⟩ := need_both h
    exact ⟨v, o, hk, need_of hp fun _ => ⟨rfl, rfl⟩⟩
  · exact h.elim
structure NdR where
  p : Prop
  α : Type
  R : α → Prop
  V : α → AV
  O : α → List Obj
theorem one_calls (hf : P.funcs[id]? = some fn) (hok : fnOk P fn ir rd = true) (hΓ : EnvOk P Γ) {args : List AV} {objs : List Obj} {v : AV} {o : List Obj} (hl : args.length = fn.params.size + fn.nfree)
    (h : (∀ v ∈ args, v.wf1) → (∀ o ∈ objs, o.wf) → evFn Γ ir rd args objs fun v' o' => v' = v ∧ o' = o) : SoundS P id fun a b K => a = args ∧ b = objs ∧ ((fun v' o' => v' = v ∧ o' = o) = K) := by
  refine fn_sound hf hok hΓ (fun {a b K} hk => ?_) (fun a b K hk => by rw [hk.1]; exact hl) (fun a b K hw ho hk => ?_)
  · obtain ⟨rfl, rfl, rfl⟩ := hk
    exact ⟨v, o, ⟨rfl, rfl⟩, rfl, rfl, rfl⟩
  · obtain ⟨rfl, rfl, rfl⟩ := hk
    exact h hw ho
theorem ro_fn {f : List AV → List Obj → Option (Prop × AV)} (hf : P.funcs[id]? = some fn) (hok : fnOk P fn ir rd = true) (hΓ : EnvOk P Γ)
    (h : ∀ args objs p v, f args objs = some (p, v) → args.length = fn.params.size + fn.nfree ∧ ((∀ v ∈ args, v.wf1) → (∀ o ∈ objs, o.wf) → p → evFn Γ ir rd args objs fun v' o' => v' = v ∧ o' = objs)) : SoundS P id (RoF f).sum := by
  have hc : Callable P id := by
    unfold fnOk at hok
    split at hok
    · rename_i c hb
      simp only [Bool.and_eq_true, decide_eq_true_eq, Bool.not_eq_true'] at hok
      exact ⟨fn, hf, hok.2, by rw [hb]; rfl⟩
    · cases hok
  refine ⟨hc, ro_det f, fun {I w m args cargs objs K} hH hA hu hS => ?_⟩
  simp only [RoF, SumK.sum] at hS
  split at hS
  · rename_i p v e
    obtain ⟨hp, hk⟩ := need_both hS
    obtain ⟨hl, hev⟩ := h args objs p v e
    have := one_calls hf hok hΓ (v := v) (o := objs) hl fun hw ho => hev hw ho hp
    refine (this.2.2 hH hA hu ⟨rfl, rfl, rfl⟩).mono ?_
    rintro e w' ⟨v', cv, objs', I', m', h1, ⟨rfl, rfl⟩, h3⟩
    exact ⟨v', cv, objs', I', m', h1, hk, h3⟩
  · exact hS.elim
theorem rw_fn {f : List AV → List Obj → Option (Prop × AV × List Obj)} (hf : P.funcs[id]? = some fn) (hok : fnOk P fn ir rd = true) (hΓ : EnvOk P Γ)
    (h : ∀ args objs p v o, f args objs = some (p, v, o) → args.length = fn.params.size + fn.nfree ∧ ((∀ v ∈ args, v.wf1) → (∀ o ∈ objs, o.wf) → p → evFn Γ ir rd args objs fun v' o' => v' = v ∧ o' = o)) : SoundS P id (RwF f).sum := by
  have hc : Callable P id := by
    unfold fnOk at hok
    split at hok
    · rename_i c hb
      simp only [Bool.and_eq_true, decide_eq_true_eq, Bool.not_eq_true'] at hok
      exact ⟨fn, hf, hok.2, by rw [hb]; rfl⟩
    · cases hok
  refine ⟨hc, rw_det f, fun {I w m args cargs objs K} hH hA hu hS => ?_⟩
  simp only [RwF, SumK.sum] at hS
  split at hS
  · rename_i p v o e
    obtain ⟨hp, hk⟩ := need_both hS
    obtain ⟨hl, hev⟩ := h args objs p v o e
    have := one_calls hf hok hΓ (v := v) (o := o) hl fun hw ho => hev hw ho hp
    refine (this.2.2 hH hA hu ⟨rfl, rfl, rfl⟩).mono ?_
    rintro e w' ⟨v', cv, objs', I', m', h1, ⟨rfl, rfl⟩, h3⟩
    exact ⟨v', cv, objs', I', m', h1, hk, h3⟩
  · exact hS.elim
inductive Res where
  | one (v : AV) (o : List Obj)
  | br (b : Bool) (x y : Res)
def Res.pick : Res → AV × List Obj
  | .one v o => (v, o)
  | .br b x y => if b = true then x.pick else y.pick
def Res.run : Res → (AV → List Obj → Prop) → Prop
  | .one v o, K => K v o
  | .br b x y, K => cnd b (x.run K) (y.run K)
theorem Res.run_pick : ∀ (r : Res) (K : AV → List Obj → Prop), r.run K ↔ K r.pick.1 r.pick.2
  | .one _ _, _ => Iff.rfl
  | .br b x y, K => by
    unfold Res.run Res.pick
    cases b with
    | true => rw [if_pos rfl, ← Res.run_pick x K]; exact ⟨fun h => h true rfl, fun h t e => by subst e; exact h⟩
    | false => rw [if_neg (by simp), ← Res.run_pick y K]; exact ⟨fun h => h false rfl, fun h t e => by subst e; exact h⟩
def RcF (f : List AV → List Obj → Option (Prop × Res)) : SumK := .rw fun args objs K => match f args objs with
  | some (p, r) => need p (r.run K)
  | none => False
def pkF (f : List AV → List Obj → Option (Prop × Res)) : List AV → List Obj → Option (Prop × AV × List Obj) := fun args objs => match f args objs with
  | some (p, r) => some (p, r.pick.1, r.pick.2)
  | none => none
theorem rc_sum {f : List AV → List Obj → Option (Prop × Res)} : (RcF f).sum = (RwF (pkF f)).sum := funext fun args => funext fun objs => funext fun K => propext (by
  simp only [RcF, RwF, SumK.sum, pkF]
  cases f args objs with
  | none => exact Iff.rfl
  | some x => exact ⟨fun h => need_of (need_both h).1 fun _ => (Res.run_pick _ _).1 (need_both h).2, fun h => need_of (need_both h).1 fun _ => (Res.run_pick _ _).2 (need_both h).2⟩)
theorem pk_some {f : List AV → List Obj → Option (Prop × Res)} {args : List AV} {objs : List Obj} {p : Prop} {v : AV} {o : List Obj} (h : pkF f args objs = some (p, v, o)) : ∃ r, f args objs = some (p, r) ∧ v = r.pick.1 ∧ o = r.pick.2 := by
  unfold pkF at h
  split at h
  · rename_i p r e; cases h; exact ⟨r, e, rfl, rfl⟩
  · cases h
theorem rc_fn {f : List AV → List Obj → Option (Prop × Res)} (hf : P.funcs[id]? = some fn) (hok : fnOk P fn ir rd = true) (hΓ : EnvOk P Γ)
    (h : ∀ args objs p r, f args objs = some (p, r) → args.length = fn.params.size + fn.nfree ∧ ((∀ v ∈ args, v.wf1) → (∀ o ∈ objs, o.wf) → p → evFn Γ ir rd args objs fun v' o' => v' = r.pick.1 ∧ o' = r.pick.2)) : SoundS P id (RcF f).sum := by
  rw [rc_sum]
  refine rw_fn hf hok hΓ fun args objs p v o e => ?_
  obtain ⟨r, e2, rfl, rfl⟩ := pk_some e
  exact h args objs p r e2
theorem RVL0_own {I : Nat → Prop} {w : World} {m : M} {k : Nat} (hu : m.used k) (h1 : m.blk k = none) (h2 : m.cap k = 0) (h3 : m.len k = 0) : ∀ (pre : List AV) {post : List AV} {r : List Value}, RVL0 I w m (pre ++ .nils :: post) r → RVL0 I w m (pre ++ .own k :: post) r
  | [], post, v :: r, h => ⟨⟨none, 0, 0, h.1, hu, h3.symm, h2.symm, Nat.le_refl _, Nat.zero_le _, .inl ⟨h1, rfl, rfl⟩⟩, h.2⟩
  | a :: pre, post, v :: r, h => ⟨h.1, RVL0_own hu h1 h2 h3 pre h.2⟩
  | [], _, [], h => h.elim
  | _ :: _, _, [], h => h.elim
theorem own_of_nils {t : Ty} {f g : List AV → List Obj → Option (Prop × AV × List Obj)} (hs : SoundS P id (RwF f).sum)
    (h : ∀ args objs p v o, g args objs = some (p, v, o) → ∃ i pre post l, f args objs = some (p, v, l) ∧ l[i]? = some (.box (pre ++ .nils :: post)) ∧ o = l.set i (.box (pre ++ .own l.length :: post)) ++ [.row false t []]) : SoundS P id (RwF g).sum := by
  refine ⟨hs.1, rw_det g, fun {I w m args cargs objs K} hH hA hu hS => ?_⟩
  simp only [RwF, SumK.sum] at hS
  split at hS
  · rename_i p v o e0
    obtain ⟨hp, hk⟩ := need_both hS
    obtain ⟨i, pre, post, l, hf, hi, ho⟩ := h args objs p v o e0
    clear e0
    subst ho
    have hS' : (RwF f).sum args objs fun v' o' => v' = v ∧ o' = l := by
      unfold RwF SumK.sum; simp only; rw [hf]; exact need_of hp fun _ => ⟨rfl, rfl⟩
    refine (hs.2.2 hH hA hu hS').mono ?_
    rintro e w' ⟨v', cv, objs', I', m', rfl, ⟨rfl, rfl⟩, hL⟩
    have hnu : ¬ m'.used objs'.length := fun h => absurd (hL.used _ h) (Nat.lt_irrefl _)
    have hle : m'.le (m'.push objs'.length none 0 0 t.size) := M.push_le hnu
    have hilt : i < objs'.length := (List.getElem?_eq_some_iff.1 hi).1
    have hget : ∀ j, ofL (objs'.set i (.box (pre ++ .own objs'.length :: post)) ++ [.row false t []]) j = if j = objs'.length then some (.row false t []) else if j = i then some (.box (pre ++ .own objs'.length :: post)) else ofL objs' j := fun j => by
      unfold ofL
      by_cases h1 : j = objs'.length
      · subst h1; rw [if_pos rfl, List.getElem?_append_right (by simp)]; simp
      · rw [if_neg h1]
        by_cases h2 : j = i
        · subst h2; rw [if_pos rfl, List.getElem?_append_left (by simpa using hilt), List.getElem?_set_self (by simpa using hilt)]
        · rw [if_neg h2]
          by_cases h3 : j < objs'.length
          · rw [List.getElem?_append_left (by simpa using h3), List.getElem?_set_ne (fun e => h2 e.symm)]
          · rw [List.getElem?_eq_none (by simp; omega), List.getElem?_eq_none (by omega)]
    have hsame : ∀ j, j ≠ objs'.length → (m'.push objs'.length none 0 0 t.size).blk j = m'.blk j := fun j hj => if_neg hj
    have hold : ∀ j o, j ≠ objs'.length → ofL (objs'.set i (.box (pre ++ .own objs'.length :: post)) ++ [.row false t []]) j = some o → ∃ o', ofL objs' j = some o' ∧ o'.live = o.live ∧ o'.mut = o.mut ∧ (∀ t x, o = .row true t x → o' = o) := fun j o hj e => by
      rw [hget, if_neg hj] at e
      split at e
      · rename_i h2; subst h2; cases e; exact ⟨_, hi, rfl, rfl, fun _ _ h => by cases h⟩
      · exact ⟨o, e, rfl, rfl, fun _ _ _ => rfl⟩
    refine ⟨v', cv, _, I', m'.push objs'.length none 0 0 t.size, rfl, hk, ⟨RV_mono (fun _ h => h) (fun _ _ => rfl) hle _ _ hL.rv, ⟨fun j hj => ?_, fun j o e => ?_, fun j j' o o' b e e' hl hl' hb hb' => ?_, fun j o b e hm hb => ?_, fun j t' x b e hb => ?_, hL.H.Ilt⟩, hL.E.trans ⟨fun _ h => h, fun _ _ => rfl, hle⟩, fun j hj => ?_, ?_, hL.fr, hL.new, fun j o b e hl hb => ?_⟩⟩
    · by_cases h1 : j = objs'.length
      · exact .inr h1
      · rw [hget, if_neg h1] at hj
        refine .inl (hL.H.lt j ?_)
        by_cases h2 : j = i
        · subst h2; intro h; have hi' : ofL objs' j = _ := hi; rw [hi'] at h; cases h
        · rwa [if_neg h2] at hj
    · by_cases h1 : j = objs'.length
      · subst h1
        rw [hget, if_pos rfl] at e; cases e
        exact ⟨M.push_sz _ _ _ _ _ _, (M.push_len _ _ _ _ _ _).symm, Nat.zero_le _, by rw [M.push_cap]; exact Nat.zero_le _, .inl ⟨M.push_blk _ _ _ _ _ _, M.push_cap _ _ _ _ _ _⟩⟩
      · rw [hget, if_neg h1] at e
        by_cases h2 : j = i
        · subst h2
          rw [if_pos rfl] at e; cases e
          have hu' : m'.used j := hL.H.lt j (by have hi' : ofL objs' j = _ := hi; rw [hi']; intro h; cases h)
          have := (hL.H.obj j _ hi).mono (fun _ h => h) (fun _ _ => rfl) hle hu' (fun _ _ _ => rfl)
          obtain ⟨b, cs, T, fz, q1, q2, q3, q4⟩ := this
          exact ⟨b, cs, T, fz, q1, q2, q3, RVL0_own (by exact Or.inr rfl) (M.push_blk _ _ _ _ _ _) (M.push_cap _ _ _ _ _ _) (M.push_len _ _ _ _ _ _) pre q4⟩
        · rw [if_neg h2] at e
          have hu' : m'.used j := hL.H.lt j (by rw [e]; intro h; cases h)
          exact (hL.H.obj j _ e).mono (fun _ h => h) (fun _ _ => rfl) hle hu' (fun _ _ _ => rfl)
    · by_cases h1 : j = objs'.length
      · subst h1; rw [M.push_blk] at hb; cases hb
      · by_cases h2 : j' = objs'.length
        · subst h2; rw [M.push_blk] at hb'; cases hb'
        · rw [hsame _ h1] at hb; rw [hsame _ h2] at hb'
          obtain ⟨p1, k1, k2, _⟩ := hold j o h1 e
          obtain ⟨p2, k4, k5, _⟩ := hold j' o' h2 e'
          exact hL.H.inj j j' p1 p2 b k1 k4 (by rw [k2]; exact hl) (by rw [k5]; exact hl') hb hb'
    · by_cases h1 : j = objs'.length
      · subst h1; rw [M.push_blk] at hb; cases hb
      · rw [hsame _ h1] at hb
        obtain ⟨p1, k1, _, k3, _⟩ := hold j o h1 e
        exact hL.H.notI j p1 b k1 (by rw [k3]; exact hm) hb
    · by_cases h1 : j = objs'.length
      · subst h1; rw [M.push_blk] at hb; cases hb
      · rw [hsame _ h1] at hb
        obtain ⟨p1, k1, _, _, k4⟩ := hold j _ h1 e
        rw [k4 _ _ rfl] at k1
        exact hL.H.isI j t' x b k1 hb
    · rcases hj with hj | hj
      · have := hL.used j hj; simp; omega
      · subst hj; simp
    · have := hL.len; simp; omega
    · by_cases h1 : j = objs'.length
      · subst h1; rw [M.push_blk] at hb; cases hb
      · rw [hsame _ h1] at hb
        have e' : ofL (objs'.set i (.box (pre ++ .own objs'.length :: post)) ++ [.row false t []]) j = some o := e
        obtain ⟨p1, k1, k2, k3, _⟩ := hold j o h1 e'
        rcases hL.own j p1 b k1 (by rw [k2]; exact hl) hb with h | ⟨q, o', r1, r2, r3, r4⟩
        · exact .inl h
        · exact .inr ⟨q, o', r1, r2, fun hm => r3 (by rw [k3]; exact hm), r4⟩
  · exact hS.elim
theorem RVL0_move {I : Nat → Prop} {w : World} {m m' : M} {j k : Nat} (hle : m.le m') (hk : ∀ ao len cap, RO m j ao len cap → RO m' k ao len cap) : ∀ (pre : List AV) {post : List AV} {r : List Value}, RVL0 I w m (pre ++ .own j :: post) r → RVL0 I w m' (pre ++ .own k :: post) r
  | [], post, v :: r, h => by
    obtain ⟨ao, len, cap, e, hO⟩ := h.1
    exact ⟨⟨ao, len, cap, e, hk _ _ _ hO⟩, RVL0_mono (fun _ h => h) (fun _ _ => rfl) hle _ _ h.2⟩
  | a :: pre, post, v :: r, h => ⟨RV0_mono (fun _ h => h) (fun _ _ => rfl) hle _ _ h.1, RVL0_move hle hk pre h.2⟩
  | [], _, [], h => h.elim
  | _ :: _, _, [], h => h.elim
def moved (l : List Obj) (i j : Nat) (pre post : List AV) (t : Ty) (x : List t.den) : List Obj := ((l.set i (.box (pre ++ .own l.length :: post))).set j .dead) ++ [.row false t x]
theorem rw_move {f g : List AV → List Obj → Option (Prop × AV × List Obj)} (hs : SoundS P id (RwF f).sum)
    (h : ∀ args objs p v o, g args objs = some (p, v, o) → ∃ l, f args objs = some (p, v, l) ∧ (o = l ∨ ∃ i j pre post t x, l[i]? = some (.box (pre ++ .own j :: post)) ∧ l[j]? = some (.row false t x) ∧ o = moved l i j pre post t x)) : SoundS P id (RwF g).sum := by
  refine ⟨hs.1, rw_det g, fun {I w m args cargs objs K} hH hA hu hS => ?_⟩
  simp only [RwF, SumK.sum] at hS
  split at hS
  · rename_i p v o e0
    obtain ⟨hp, hk⟩ := need_both hS
    obtain ⟨l, hf, hor⟩ := h args objs p v o e0
    clear e0
    have hS' : (RwF f).sum args objs fun v' o' => v' = v ∧ o' = l := by
      unfold RwF SumK.sum; simp only; rw [hf]; exact need_of hp fun _ => ⟨rfl, rfl⟩
    refine (hs.2.2 hH hA hu hS').mono ?_
    rintro e w' ⟨v', cv, objs', I', m', rfl, ⟨rfl, rfl⟩, hL⟩
    rcases hor with rfl | ⟨i, j, pre, post, t, x, hi, hj, rfl⟩
    · exact ⟨v', cv, _, I', m', rfl, hk, hL⟩
    have hnu : ¬ m'.used objs'.length := fun h => absurd (hL.used _ h) (Nat.lt_irrefl _)
    have hle : m'.le (m'.push objs'.length (m'.blk j) (m'.cap j) (m'.len j) (m'.sz j)) := M.push_le hnu
    have hilt : i < objs'.length := (List.getElem?_eq_some_iff.1 hi).1
    have hjlt : j < objs'.length := (List.getElem?_eq_some_iff.1 hj).1
    have hij : i ≠ j := fun e => by subst e; rw [hi] at hj; cases hj
    have hget : ∀ q, ofL (moved objs' i j pre post t x) q = if q = objs'.length then some (.row false t x) else if q = j then some .dead else if q = i then some (.box (pre ++ .own objs'.length :: post)) else ofL objs' q := fun q => by
      unfold ofL moved
      by_cases h1 : q = objs'.length
      · subst h1; rw [if_pos rfl, List.getElem?_append_right (by simp)]; simp
      · rw [if_neg h1]
        by_cases h2 : q = j
        · subst h2; rw [if_pos rfl, List.getElem?_append_left (by simpa using hjlt), List.getElem?_set_self (by simpa using hjlt)]
        · rw [if_neg h2]
          by_cases h3 : q = i
          · subst h3; rw [if_pos rfl, List.getElem?_append_left (by simpa using hilt), List.getElem?_set_ne (fun e => h2 e.symm), List.getElem?_set_self (by simpa using hilt)]
          · rw [if_neg h3]
            by_cases h4 : q < objs'.length
            · rw [List.getElem?_append_left (by simpa using h4), List.getElem?_set_ne (fun e => h2 e.symm), List.getElem?_set_ne (fun e => h3 e.symm)]
            · rw [List.getElem?_eq_none (by simp; omega), List.getElem?_eq_none (by omega)]
    have hblk : ∀ q, q ≠ objs'.length → (m'.push objs'.length (m'.blk j) (m'.cap j) (m'.len j) (m'.sz j)).blk q = m'.blk q := fun q hq => if_neg hq
    have hold : ∀ q o, q ≠ objs'.length → ofL (moved objs' i j pre post t x) q = some o → o.live = true → q ≠ j ∧ ∃ o', ofL objs' q = some o' ∧ o'.live = o.live ∧ o'.mut = o.mut ∧ (∀ t x, o = .row true t x → o' = o) := fun q o hq e hl => by
      rw [hget, if_neg hq] at e
      split at e
      · cases e; cases hl
      · rename_i h2
        split at e
        · rename_i h3; subst h3; cases e; exact ⟨h2, _, hi, rfl, rfl, fun _ _ h => by cases h⟩
        · exact ⟨h2, o, e, rfl, rfl, fun _ _ _ => rfl⟩
    have hRO : ∀ ao len cap, RO m' j ao len cap → RO (m'.push objs'.length (m'.blk j) (m'.cap j) (m'.len j) (m'.sz j)) objs'.length ao len cap := fun ao len cap ⟨_, r2, r3, r4, r5, r6⟩ =>
      ⟨by exact Or.inr rfl, by rw [M.push_len]; exact r2, by rw [M.push_cap]; exact r3, r4, r5, by rw [M.push_blk]; exact r6⟩
    have ml : ∀ {o : Obj}, o.mut = true → o.live = true := fun {o} h => by cases o <;> first | rfl | cases h
    have hj' : ofL objs' j = some (.row false t x) := hj
    refine ⟨v', cv, _, I', m'.push objs'.length (m'.blk j) (m'.cap j) (m'.len j) (m'.sz j), rfl, hk, ⟨RV_mono (fun _ h => h) (fun _ _ => rfl) hle _ _ hL.rv, ⟨fun q hq => ?_, fun q o e => ?_, fun q q' o o' b e e' hl hl' hb hb' => ?_, fun q o b e hm hb => ?_, fun q t' x' b e hb => ?_, hL.H.Ilt⟩, hL.E.trans ⟨fun _ h => h, fun _ _ => rfl, hle⟩, fun q hq => ?_, ?_, hL.fr, hL.new, fun q o b e hl hb => ?_⟩⟩
    · by_cases h1 : q = objs'.length
      · exact .inr h1
      · refine .inl ?_
        by_cases h2 : q = j
        · subst h2; exact hL.H.lt q (by rw [hj']; intro h; cases h)
        · by_cases h3 : q = i
          · subst h3; exact hL.H.lt q (by have hi' : ofL objs' q = _ := hi; rw [hi']; intro h; cases h)
          · rw [hget, if_neg h1, if_neg h2, if_neg h3] at hq
            exact hL.H.lt q hq
    · by_cases h1 : q = objs'.length
      · subst h1
        rw [hget, if_pos rfl] at e; cases e
        obtain ⟨q1, q2, q3, q4, q5⟩ := hL.H.obj j _ hj'
        exact ⟨by rw [M.push_sz]; exact q1, by rw [M.push_len]; exact q2, by rw [M.push_cap]; exact q3, by rw [M.push_cap]; exact q4, by rw [M.push_blk, M.push_cap]; exact q5⟩
      · rw [hget, if_neg h1] at e
        by_cases h2 : q = j
        · subst h2; rw [if_pos rfl] at e; cases e; trivial
        · rw [if_neg h2] at e
          by_cases h3 : q = i
          · subst h3
            rw [if_pos rfl] at e; cases e
            obtain ⟨b, cs, T, fz, q1, q2, q3, q4⟩ := hL.H.obj q _ hi
            exact ⟨b, cs, T, fz, by rw [hblk _ h1]; exact q1, q2, q3, RVL0_move hle hRO pre q4⟩
          · rw [if_neg h3] at e
            have hu' : m'.used q := hL.H.lt q (by rw [e]; intro h; cases h)
            exact (hL.H.obj q _ e).mono (fun _ h => h) (fun _ _ => rfl) hle hu' (fun _ _ _ => rfl)
    · by_cases h1 : q = objs'.length
      · subst h1
        rw [M.push_blk] at hb
        by_cases h2 : q' = objs'.length
        · exact h2.symm
        · rw [hblk _ h2] at hb'
          obtain ⟨n1, p1, k1, k2, _⟩ := hold q' o' h2 e' hl'
          exact absurd (hL.H.inj j q' _ p1 b hj' k1 rfl (by rw [k2]; exact hl') hb hb').symm n1
      · rw [hblk _ h1] at hb
        obtain ⟨n1, p1, k1, k2, _⟩ := hold q o h1 e hl
        by_cases h2 : q' = objs'.length
        · subst h2
          rw [M.push_blk] at hb'
          exact absurd (hL.H.inj q j p1 _ b k1 hj' (by rw [k2]; exact hl) rfl hb hb') n1
        · rw [hblk _ h2] at hb'
          obtain ⟨_, p2, k4, k5, _⟩ := hold q' o' h2 e' hl'
          exact hL.H.inj q q' p1 p2 b k1 k4 (by rw [k2]; exact hl) (by rw [k5]; exact hl') hb hb'
    · by_cases h1 : q = objs'.length
      · subst h1; rw [M.push_blk] at hb
        exact hL.H.notI j _ b hj' rfl hb
      · rw [hblk _ h1] at hb
        obtain ⟨_, p1, k1, _, k3, _⟩ := hold q o h1 e (ml hm)
        exact hL.H.notI q p1 b k1 (by rw [k3]; exact hm) hb
    · by_cases h1 : q = objs'.length
      · subst h1; rw [hget, if_pos rfl] at e; cases e
      · rw [hblk _ h1] at hb
        obtain ⟨_, p1, k1, _, _, k4⟩ := hold q _ h1 e rfl
        rw [k4 _ _ rfl] at k1
        exact hL.H.isI q t' x' b k1 hb
    · have hlm : (moved objs' i j pre post t x).length = objs'.length + 1 := by unfold moved; simp
      rw [hlm]
      rcases hq with hq | hq
      · have := hL.used q hq; omega
      · omega
    · have := hL.len
      have hlm : (moved objs' i j pre post t x).length = objs'.length + 1 := by unfold moved; simp
      omega
    · by_cases h1 : q = objs'.length
      · subst h1; rw [M.push_blk] at hb
        have e' : ofL (moved objs' i j pre post t x) objs'.length = some o := e
        rw [hget, if_pos rfl] at e'; cases e'
        rcases hL.own j _ b hj' rfl hb with h | ⟨s, o', r1, r2, r3, r4⟩
        · exact .inl h
        · exact .inr ⟨s, o', r1, r2, fun hm => r3 rfl, r4⟩
      · rw [hblk _ h1] at hb
        have e' : ofL (moved objs' i j pre post t x) q = some o := e
        obtain ⟨_, p1, k1, k2, k3, _⟩ := hold q o h1 e' hl
        rcases hL.own q p1 b k1 (by rw [k2]; exact hl) hb with h | ⟨s, o', r1, r2, r3, r4⟩
        · exact .inl h
        · exact .inr ⟨s, o', r1, r2, fun hm => r3 (by rw [k3]; exact hm), r4⟩
  · exact hS.elim
theorem rw_kill {f g : List AV → List Obj → Option (Prop × AV × List Obj)} (hs : SoundS P id (RwF f).sum)
    (h : ∀ args objs p v o, g args objs = some (p, v, o) → ∃ l j, f args objs = some (p, v, l) ∧ j < l.length ∧ o = l.set j .dead) : SoundS P id (RwF g).sum := by
  refine ⟨hs.1, rw_det g, fun {I w m args cargs objs K} hH hA hu hS => ?_⟩
  simp only [RwF, SumK.sum] at hS
  split at hS
  · rename_i p v o e0
    obtain ⟨hp, hk⟩ := need_both hS
    obtain ⟨l, j, hf, hjl, ho⟩ := h args objs p v o e0
    clear e0
    subst ho
    have hS' : (RwF f).sum args objs fun v' o' => v' = v ∧ o' = l := by
      unfold RwF SumK.sum; simp only; rw [hf]; exact need_of hp fun _ => ⟨rfl, rfl⟩
    refine (hs.2.2 hH hA hu hS').mono ?_
    rintro e w' ⟨v', cv, objs', I', m', rfl, ⟨rfl, rfl⟩, hL⟩
    have hget : ∀ q, ofL (objs'.set j .dead) q = if q = j then some .dead else ofL objs' q := fun q => by
      unfold ofL
      by_cases h1 : q = j
      · subst h1; rw [if_pos rfl, List.getElem?_set_self hjl]
      · rw [if_neg h1, List.getElem?_set_ne (fun e => h1 e.symm)]
    have hold : ∀ q o, ofL (objs'.set j .dead) q = some o → o.live = true → ofL objs' q = some o := fun q o e hl => by
      rw [hget] at e
      split at e
      · cases e; cases hl
      · exact e
    have ml : ∀ {o : Obj}, o.mut = true → o.live = true := fun {o} h => by cases o <;> first | rfl | cases h
    refine ⟨v', cv, _, I', m', rfl, hk, ⟨hL.rv, ⟨fun q hq => ?_, fun q o e => ?_, fun q q' o o' b e e' hl hl' hb hb' => hL.H.inj q q' o o' b (hold _ _ e hl) (hold _ _ e' hl') hl hl' hb hb', fun q o b e hm hb => hL.H.notI q o b (hold _ _ e (ml hm)) hm hb, fun q t x b e hb => hL.H.isI q t x b (hold _ _ e rfl) hb, hL.H.Ilt⟩, hL.E, fun q hq => by rw [List.length_set]; exact hL.used q hq, by rw [List.length_set]; exact hL.len, hL.fr, hL.new, fun q o b e hl hb => hL.own q o b (hold q o e hl) hl hb⟩⟩
    · by_cases h1 : q = j
      · subst h1; exact hL.H.lt q (by unfold ofL; rw [List.getElem?_eq_getElem hjl]; intro h; cases h)
      · rw [hget, if_neg h1] at hq; exact hL.H.lt q hq
    · rw [hget] at e
      split at e
      · cases e; trivial
      · exact hL.H.obj q o e
  · exact hS.elim
theorem rc_rw {W : List AV → List Obj → Option (Prop × Res)} (hs : SoundS P id (RcF W).sum) : SoundS P id (RwF (pkF W)).sum := by rw [← rc_sum]; exact hs
theorem pick_t {b : Bool} {x y : Res} (h : b = true) : (Res.br b x y).pick = x.pick := if_pos h
theorem pick_f {b : Bool} {x y : Res} (h : b = false) : (Res.br b x y).pick = y.pick := if_neg (by rw [h]; simp)
theorem rc_move {W : List AV → List Obj → Option (Prop × Res)} {g : List AV → List Obj → Option (Prop × AV × List Obj)} (hs : SoundS P id (RcF W).sum)
    (h : ∀ args objs p v o, g args objs = some (p, v, o) → ∃ r l, W args objs = some (p, r) ∧ r.pick = (v, l) ∧ (o = l ∨ ∃ i j pre post t x, l[i]? = some (.box (pre ++ .own j :: post)) ∧ l[j]? = some (.row false t x) ∧ o = moved l i j pre post t x)) : SoundS P id (RwF g).sum :=
  rw_move (rc_rw hs) fun args objs p v o e => by
    obtain ⟨r, l, h1, h2, h3⟩ := h args objs p v o e
    refine ⟨l, ?_, h3⟩
    unfold pkF; rw [h1]; simp only; rw [h2]
theorem rc_kill {W : List AV → List Obj → Option (Prop × Res)} {g : List AV → List Obj → Option (Prop × AV × List Obj)} (hs : SoundS P id (RcF W).sum)
    (h : ∀ args objs p v o, g args objs = some (p, v, o) → ∃ r l j, W args objs = some (p, r) ∧ r.pick = (v, l) ∧ j < l.length ∧ o = l.set j .dead) : SoundS P id (RwF g).sum :=
  rw_kill (rc_rw hs) fun args objs p v o e => by
    obtain ⟨r, l, j, h1, h2, h3, h4⟩ := h args objs p v o e
    refine ⟨l, j, ?_, h3, h4⟩
    unfold pkF; rw [h1]; simp only; rw [h2]
end
end Go.Eng

namespace Go.Eng
set_option linter.unusedVariables false
set_option linter.unusedSimpArgs false
open Go.RowKit
def allB0 (w : World) : Nat → Prop := fun b => b < w.heap.size
def noM : M := ⟨fun _ => none, fun _ => 0, fun _ => 0, fun _ => 0, fun _ => False⟩
theorem law_of_ro {P : Program} {id : FuncId} {f : List AV → List Obj → Option (Prop × AV)} (h : SoundS P id (RoF f).sum) {w : World} {args : List AV} {cargs : Array Value} (hA : RVL2 (allB0 w) w noM args cargs.toList) (hf : f args [] = some (True, .bool true)) :
    Calls P id cargs w fun e w' => e = .returned (.bool true) ∧ Below w.heap.size w w' := by
  have hH : HRel (allB0 w) w noM (ofL []) := ⟨fun i hi => absurd rfl hi, fun i o e => (by cases e), fun i j o o' b e => (by cases e), fun i o b e => (by cases e), fun i t x b e => (by cases e), fun b hb => hb⟩
  have hS : (RoF f).sum args [] (fun v _ => v = .bool true) := by
    simp only [RoF, SumK.sum, hf]
    exact need_of trivial fun _ => trivial
  refine (h.2.2 hH hA (fun i hi => hi.elim) hS).mono ?_
  rintro e w' ⟨v, cv, objs', I', m', rfl, rfl, hL⟩
  have hv : cv = .bool true := hL.rv
  subst hv
  exact ⟨rfl, hL.fr.below fun b _ ⟨i, o, e, _⟩ => by cases e⟩
end Go.Eng

namespace Go.Eng
set_option linter.unusedVariables false
set_option linter.unusedSimpArgs false
open Go.RowKit Go.ChangeShapes Go.WideShapes
def tyB (P : Program) : Ty → (TypeId → Bool) × (List (TypeId × Nat) → Nat → Bool)
  | .int k => (fun t => match P.underlying t with | some (.int k') => k' == k | _ => false, fun _ _ => false)
  | .bool => (fun t => match P.underlying t with | some .bool => true | _ => false, fun _ _ => false)
  | .str => (fun t => match P.underlying t with | some .string => true | _ => false, fun _ _ => false)
  | .sl a => (fun t => match P.underlying t with | some (.slice e) => P.cellsOf e == a.size && decide (0 < a.size) && (tyB P a).1 e | _ => false, fun _ _ => false)
  | .nil => (fun t => match P.underlying t with | some (.struct fs) => fs.isEmpty && P.cellsOf t == 0 | _ => false, fun l _ => l.isEmpty)
  | .cons a b =>
    let p : List (TypeId × Nat) → Nat → Bool := fun l off => match l with
      | (t, o) :: r => o == off && P.cellsOf t == a.size && (tyB P a).1 t && (tyB P b).2 r (off + a.size)
      | [] => false
    (fun t => P.cellsOf t == a.size + b.size && (match P.underlying t with
      | some (.struct fs) => p (fs.toList.map fun f => (f.type, f.offset)) 0
      | some (.array n e) => p ((List.range n).map fun i => (e, i * P.cellsOf e)) 0
      | _ => false), p)
theorem wf_inK {k : IntKind} {n : Int} (h : (Lit.int k n).wf = true) : inK k n := by
  simpa [Lit.wf, inK] using h
section
variable {H : Type} {enc : TypeId × Value → H} {P : Program} {W : World}
theorem trod_rc : ∀ (ty : Ty), (∀ (fuel : Nat) (t : TypeId) (cs : List Value) (x : DataW H × List MemPlace), (tyB P ty).1 t = true → DataW.trod enc P W 0 (fun _ => true) true fuel t cs = some x → ∃ y : ty.den, RC (allB0 W) W ty y cs) ∧
    (∀ (fuel : Nat) (l : List (TypeId × Nat)) (off : Nat) (cs : List Value), (tyB P ty).2 l off = true → cs.length = off + ty.size → (∀ (i : Nat) t o, l[i]? = some (t, o) → ∃ x, DataW.trod enc P W 0 (fun _ => true) true fuel t ((cs.drop o).take (P.cellsOf t)) = some x) → ∃ y : ty.den, RC (allB0 W) W ty y (cs.drop off))
  | .int k => by
    refine ⟨fun fuel t cs x ht h => ?_, fun fuel l off cs h => by cases h⟩
    simp only [tyB] at ht
    split at ht
    · rename_i k' hu
      simp only [beq_iff_eq] at ht
      subst ht
      obtain ⟨n, rfl, _, hw⟩ := DataW.trod_int hu h
      exact ⟨n, rfl, wf_inK hw⟩
    · cases ht
  | .bool => by
    refine ⟨fun fuel t cs x ht h => ?_, fun fuel l off cs h => by cases h⟩
    simp only [tyB] at ht
    split at ht
    · rename_i hu
      obtain ⟨b, rfl, _⟩ := DataW.trod_bool hu h
      exact ⟨b, rfl⟩
    · cases ht
  | .str => by
    refine ⟨fun fuel t cs x ht h => ?_, fun fuel l off cs h => by cases h⟩
    simp only [tyB] at ht
    split at ht
    · rename_i hu
      obtain ⟨s, rfl, _, hs⟩ := DataW.trod_string hu h
      exact ⟨bytesI s, s, rfl, rfl, hs⟩
    · cases ht
  | .sl a => by
    refine ⟨fun fuel t cs x ht h => ?_, fun fuel l off cs h => by cases h⟩
    simp only [tyB] at ht
    split at ht
    · rename_i e hu
      simp only [Bool.and_eq_true, beq_iff_eq, decide_eq_true_eq] at ht
      obtain ⟨⟨hc, hpos0⟩, ha⟩ := ht
      rcases DataW.trod_slice hu h with ⟨rfl, _⟩ | ⟨ad, len, cap, elems, rest, n, _, rfl, _, hb, hl, hm, hlen, hel, _, _⟩
      · exact ⟨([] : List a.den), none, 0, 0, rfl, rfl, Nat.le_refl _, Nat.zero_le _, fun h => absurd h (by omega)⟩
      · have each : ∀ i, i < len → ∃ (y : a.den) (es : List Value), RC (allB0 W) W a y es ∧ es.length = a.size ∧ ∀ j (hj : j < es.length), W.cell? ((ad.add (i * a.size)).add j) = some es[j] := fun i hi => by
          have h1 := hel i hi
          rw [hc] at h1
          have hi' : i < elems.length := by omega
          rw [List.getElem?_eq_getElem hi'] at h1
          obtain ⟨es, e1, e2⟩ := Option.bind_eq_some_iff.1 h1
          obtain ⟨y, hy⟩ := (trod_rc a).1 n e es _ ha e2
          obtain ⟨_, k2, k3⟩ := World.cells?_some e1
          exact ⟨y, es, hy, k2, fun j hj => by rw [k3 j (by omega), List.getElem?_eq_getElem hj]⟩
        have build : ∀ m, m ≤ len → ∃ l : List a.den, l.length = m ∧ ∀ i (h : i < l.length), ∃ es, RC (allB0 W) W a l[i] es ∧ ∀ j (hj : j < es.length), W.cell? ((ad.add (i * a.size)).add j) = some es[j] := fun m => by
          induction m with
          | zero => intro _; exact ⟨[], rfl, fun i h => by simp at h⟩
          | succ m ih =>
            intro hm
            obtain ⟨l, h1, h2⟩ := ih (by omega)
            obtain ⟨y, es, h3, _, h4⟩ := each m (by omega)
            refine ⟨l ++ [y], by simp [h1], fun i hi => ?_⟩
            by_cases hlt : i < l.length
            · rw [List.getElem_append_left hlt]; exact h2 i hlt
            · have : i = m := by simp at hi; omega
              subst this
              rw [List.getElem_append_right (by omega)]
              simp only [List.getElem_singleton]
              exact ⟨es, h3, h4⟩
        obtain ⟨l, h1, h2⟩ := build len (Nat.le_refl _)
        refine ⟨l, some ad, len, cap, rfl, h1.symm, hl, hm, fun hpos => ?_⟩
        obtain ⟨es, q1, q2⟩ := h2 0 (by omega)
        have hes := RC_length a _ _ q1
        have hc0 := q2 0 (by omega)
        rw [Nat.zero_mul] at hc0
        obtain ⟨b, off, spot⟩ := ad
        have hspot : spot = none := by simpa [Addr.add] using World.cell?_spot hc0
        subst hspot
        refine ⟨b, off, rfl, ?_, fun i hi => ?_⟩
        · unfold allB0
          simp only [addr_add] at hc0
          unfold World.cell? at hc0
          cases hb : W.heap[b]? with
          | none => simp [hb] at hc0
          | some o => exact lt_of_get hb
        · obtain ⟨es, q1, q2⟩ := h2 i hi
          exact ⟨es, q1, fun j hj => by have := q2 j hj; rw [addr_add, addr_add] at this; exact this⟩
    · cases ht
  | .nil => by
    refine ⟨fun fuel t cs x ht h => ?_, fun fuel l off cs h hl _ => ⟨(), by simp only [RC]; exact List.drop_eq_nil_of_le (by simp [Ty.size] at hl; omega)⟩⟩
    simp only [tyB] at ht
    split at ht
    · rename_i fs hu
      simp only [Bool.and_eq_true, beq_iff_eq] at ht
      obtain ⟨xs, n, _, _, hl, _⟩ := DataW.trod_struct hu h
      rw [ht.2] at hl
      exact ⟨(), List.eq_nil_of_length_eq_zero hl⟩
    · cases ht
  | .cons a b => by
    have key : ∀ (fuel : Nat) (l : List (TypeId × Nat)) (off : Nat) (cs : List Value), (tyB P (.cons a b)).2 l off = true → cs.length = off + (a.size + b.size) → (∀ (i : Nat) t o, l[i]? = some (t, o) → ∃ x, DataW.trod enc P W 0 (fun _ => true) true fuel t ((cs.drop o).take (P.cellsOf t)) = some x) → ∃ y : (Ty.cons a b).den, RC (allB0 W) W (.cons a b) y (cs.drop off) := fun fuel l off cs h hl hx => by
      simp only [tyB] at h
      split at h
      · rename_i t o r
        simp only [Bool.and_eq_true, beq_iff_eq] at h
        obtain ⟨⟨⟨rfl, hc⟩, ha⟩, hr⟩ := h
        obtain ⟨x, h1⟩ := hx 0 t o rfl
        obtain ⟨y, hy⟩ := (trod_rc a).1 fuel t _ x ha h1
        obtain ⟨z, hz⟩ := (trod_rc b).2 fuel r (o + a.size) cs hr (by omega) fun i t' o' hi => hx (i + 1) t' o' (by simpa using hi)
        refine ⟨(y, z), ?_⟩
        simp only [RC]
        refine ⟨_, _, ?_, hy, hz⟩
        rw [hc, ← List.drop_drop, List.take_append_drop]
      · cases h
    refine ⟨fun fuel t cs x ht h => ?_, fun fuel l off cs h hl hx => key fuel l off cs h (by simpa [Ty.size] using hl) hx⟩
    have ht' : P.cellsOf t == a.size + b.size ∧ (match P.underlying t with
      | some (.struct fs) => (tyB P (.cons a b)).2 (fs.toList.map fun f => (f.type, f.offset)) 0
      | some (.array n e) => (tyB P (.cons a b)).2 ((List.range n).map fun i => (e, i * P.cellsOf e)) 0
      | _ => false) = true := by
      simp only [tyB, Bool.and_eq_true] at ht ⊢
      exact ht
    obtain ⟨hc, hm⟩ := ht'
    simp only [beq_iff_eq] at hc
    split at hm
    · rename_i fs hu
      obtain ⟨xs, n, _, _, hl, hn, hf⟩ := DataW.trod_struct hu h
      have := key n _ 0 cs hm (by omega) fun i t o hi => by
        rw [List.getElem?_map, Option.map_eq_some_iff] at hi
        obtain ⟨f, h1, h2⟩ := hi
        cases h2
        have h1' : fs[i]? = some f := by rw [← Array.getElem?_toList]; exact h1
        have hlt : i < xs.length := by rw [hn]; exact (Array.getElem?_eq_some_iff.1 h1').1
        exact ⟨xs[i], by rw [hf i f h1', List.getElem?_eq_getElem hlt]⟩
      rwa [List.drop_zero] at this
    · rename_i k e hu
      obtain ⟨xs, n, _, _, hl, hn, hf⟩ := DataW.trod_array hu h
      have := key n _ 0 cs hm (by omega) fun i t o hi => by
        rw [List.getElem?_map, Option.map_eq_some_iff] at hi
        obtain ⟨j, h1, h2⟩ := hi
        cases h2
        obtain ⟨hlt, rfl⟩ := List.getElem?_eq_some_iff.1 h1
        simp only [List.length_range] at hlt
        simp only [List.getElem_range]
        exact ⟨xs[i], by rw [hf i hlt, List.getElem?_eq_getElem (by omega)]⟩
      rwa [List.drop_zero] at this
    · cases hm
def argOf (ty : Ty) (y : ty.den) : AV := match ty with
  | .nil => .agg (Ty.cells .nil y)
  | .cons a b => .agg (Ty.cells (.cons a b) y)
  | .int k => .int k y
  | .bool => .bool y
  | .str => .str y
  | .sl t => .imm t y
def ArgsOf : List Ty → List AV → Prop
  | [], [] => True
  | ty :: r, a :: l => (∃ y : ty.den, a = argOf ty y) ∧ ArgsOf r l
  | _, _ => False
def tysB (P : Program) : List Ty → List TypeId → Bool
  | [], [] => true
  | ty :: r, t :: l => (tyB P ty).1 t && tysB P r l
  | _, _ => false
theorem arg_rv {r : Reach} {b0 : Nat} {ty : Ty} {t : TypeId} {v : Value} {d : DataW H} {ps : List MemPlace} (ht : (tyB P ty).1 t = true) (hval : Value.okWide P W r b0 t v) (h : DataW.Trod enc P W 0 (fun _ => true) true t v d ps) :
    ∃ y : ty.den, RV2 (allB0 W) W noM (argOf ty y) v := by
  obtain ⟨fuel, hf⟩ := h
  obtain ⟨y, hy⟩ := (trod_rc ty).1 fuel t _ _ ht hf
  refine ⟨y, ?_⟩
  have hcells := RC_cells (m := noM) ty y _ hy
  cases ty with
  | int k =>
    simp only [tyB] at ht
    split at ht
    · rename_i k' hu
      obtain ⟨n, rfl⟩ := okWide_int hu hval
      exact RV2_of (RV1_of hcells.1)
    · cases ht
  | bool =>
    simp only [tyB] at ht
    split at ht
    · rename_i hu
      obtain ⟨n, rfl⟩ := okWide_bool hu hval
      exact RV2_of (RV1_of hcells.1)
    · cases ht
  | str =>
    simp only [tyB] at ht
    split at ht
    · rename_i hu
      obtain ⟨n, rfl⟩ := okWide_string hu hval
      exact RV2_of (RV1_of hcells.1)
    · cases ht
  | sl a =>
    simp only [tyB] at ht
    split at ht
    · rename_i e hu
      obtain ⟨ao, n, c, rfl⟩ := okWide_slice hu hval
      exact RV2_of (RV1_of hcells.1)
    · cases ht
  | nil =>
    simp only [tyB] at ht
    split at ht
    · rename_i fs hu
      obtain ⟨cs, rfl, _⟩ := okWide_struct hu hval
      exact RV2_of ⟨cs, rfl, hcells⟩
    · cases ht
  | cons a b =>
    have ha : ∃ cs, v = .agg cs := by
      simp only [tyB, Bool.and_eq_true] at ht
      obtain ⟨_, ht⟩ := ht
      split at ht
      · rename_i fs hu
        obtain ⟨cs, rfl, _⟩ := okWide_struct hu hval; exact ⟨cs, rfl⟩
      · rename_i n e hu
        simp only [Value.okWide, hu] at hval
        obtain ⟨cs, h1, _⟩ := hval; exact ⟨cs, h1⟩
      · cases ht
    obtain ⟨cs, rfl⟩ := ha
    exact RV2_of ⟨cs, rfl, hcells⟩
theorem args_open {r : Reach} {b0 : Nat} : ∀ {tys : List Ty} {ts : List TypeId} {vs : List Value} {ds : List (DataW H)} {ps : List MemPlace}, tysB P tys ts = true → (∀ (j : Nat) t v, ts[j]? = some t → vs[j]? = some v → Value.okWide P W r b0 t v) →
    DataW.TrodAll enc P W 0 (fun _ => true) true ts vs ds ps → ∃ avs, RVL2 (allB0 W) W noM avs vs ∧ ArgsOf tys avs
  | [], [], [], [], _, _, _, _ => ⟨[], trivial, trivial⟩
  | ty :: r, t :: ts, v :: vs, d :: ds, ps, ht, hv, h => by
    simp only [tysB, Bool.and_eq_true] at ht
    obtain ⟨p, q, h1, h2, rfl⟩ := h
    obtain ⟨y, hy⟩ := arg_rv ht.1 (hv 0 t v rfl rfl) h1
    obtain ⟨avs, h3, h4⟩ := args_open ht.2 (fun j t v h h' => hv (j + 1) t v (by simpa using h) (by simpa using h')) h2
    exact ⟨_ :: avs, ⟨hy, h3⟩, ⟨y, rfl⟩, h4⟩
  | [], _ :: _, _, _, _, ht, _, _ => by cases ht
  | _ :: _, [], _, _, _, ht, _, _ => by cases ht
  | [], [], _ :: _, _, _, _, _, h => h.elim
  | [], [], [], _ :: _, _, _, _, h => h.elim
  | _ :: _, _ :: _, [], _, _, _, _, h => h.elim
  | _ :: _, _ :: _, _ :: _, [], _, _, _, h => h.elim
theorem trodAll_len : ∀ {ts : List TypeId} {vs : List Value} {ds : List (DataW H)} {ps : List MemPlace}, DataW.TrodAll enc P W 0 (fun _ => true) true ts vs ds ps → ds.length = ts.length
  | [], [], [], _, _ => rfl
  | _ :: _, _ :: _, _ :: _, _, ⟨_, _, _, h, _⟩ => by rw [List.length_cons, List.length_cons, trodAll_len h]
  | [], _ :: _, _, _, h => h.elim
  | [], [], _ :: _, _, h => h.elim
  | _ :: _, [], _, _, h => h.elim
  | _ :: _, _ :: _, [], _, h => h.elim
def tsB (P : Program) : List TypeId → Bool
  | [] => true
  | t :: r => P.readableRec t && decide (t < P.types.size) && tsB P r
theorem len3 {α : Type} : ∀ {l : List α}, l.length = 3 → ∃ a b c, l = [a, b, c]
  | [a, b, c], _ => ⟨a, b, c, rfl⟩
theorem args_again (hl : laidOutB P = true) {W' : World} (hb : Below W.heap.size W W') : ∀ {ts : List TypeId} {vs : List Value} {ds : List (DataW H)} {ps : List MemPlace}, tsB P ts = true →
    DataW.TrodAll enc P W 0 (fun _ => true) true ts vs ds ps → DataW.TrodAll enc P W' 0 (fun b => decide (b < W.heap.size)) true ts vs ds ps
  | [], [], [], _, _, h => h
  | t :: ts, v :: vs, d :: ds, ps, ht, h => by
    simp only [tsB, Bool.and_eq_true, decide_eq_true_eq] at ht
    obtain ⟨p, q, h1, h2, rfl⟩ := h
    have lt : ∀ x ∈ p, x.block < W.heap.size := by obtain ⟨m, hm⟩ := h1; exact DataW.trod_lt m _ _ _ hm
    exact trodAll_cons_mk (Below.trod hl ht.1.1 ht.1.2 h1 hb lt) (args_again hl hb ht.2 h2)
  | [], _ :: _, _, _, _, h => h.elim
  | [], [], _ :: _, _, _, h => h.elim
  | _ :: _, [], _, _, _, h => h.elim
  | _ :: _, _ :: _, [], _, _, h => h.elim
end
end Go.Eng
namespace Go.Eng
abbrev Y1 : Ty := (.cons (.int .i64) (.cons (.int .i64) (.cons .bool (.cons (.int .u64) (.cons (.sl (.int .u8)) (.cons (.sl (.int .u8)) .nil))))))
abbrev Y2 : Ty := (.cons (.int .i64) (.cons (.int .u64) (.cons (.int .u64) (.cons Y1 (.cons (.sl (.int .u8)) .nil)))))
abbrev Y3 : Ty := (.cons (.int .i64) (.cons (.int .u64) (.cons (.int .u64) (.cons (.sl Y2) (.cons (.sl (.int .u8)) .nil)))))
abbrev Y4 : Ty := (.cons (.int .u64) (.cons (.int .u64) (.cons (.int .u64) (.cons (.sl Y2) .nil))))
abbrev Y5 : Ty := (.cons (.int .i64) (.cons (.int .u64) (.cons (.int .u64) (.cons (.int .u64) (.cons (.sl (.int .u8)) .nil)))))
abbrev Y6 : Ty := (.cons (.int .i64) (.cons (.int .u64) (.cons (.sl (.int .u8)) .nil)))
abbrev Y7 : Ty := (.cons (.int .u64) (.cons (.int .u64) (.cons (.sl Y6) .nil)))
abbrev Y8 : Ty := (.cons (.int .u64) (.cons (.int .u64) (.cons .str (.cons (.cons (.int .u64) (.cons (.int .u64) (.cons (.int .u64) (.cons (.int .u64) (.cons (.int .u64) (.cons (.int .u64) (.cons (.int .u64) (.cons (.int .u64) .nil)))))))) .nil))))
abbrev Y9 : Ty := (.cons (.int .i64) (.cons (.sl (.int .u64)) (.cons (.sl (.int .u8)) .nil)))
abbrev YA : Ty := (.cons (.int .u64) (.cons .str (.cons (.int .u64) (.cons (.int .u64) (.cons (.int .u64) (.cons (.int .u64) (.cons (.sl Y9) .nil)))))))
abbrev YB : Ty := (.cons (.int .i64) (.cons (.sl (.int .u8)) .nil))
abbrev YC : Ty := (.cons (.sl (.int .u64)) (.cons (.sl .str) (.cons (.sl Y1) (.cons (.sl Y3) (.cons (.sl Y4) (.cons (.sl Y5) (.cons (.sl (.sl (.int .u64))) (.cons (.sl Y8) (.cons (.sl YA) (.cons (.sl (.int .u8)) .nil))))))))))
end Go.Eng
