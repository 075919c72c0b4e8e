/- The engine: Fn. No condition. -/
import Derived.Test.YtmbcgankddgpjaaDoorECode2
namespace Go.Eng
set_option linter.unusedVariables false
set_option linter.unusedSimpArgs false
open Go.RowKit
def Ty.wf : (t : Ty) → t.den → Prop
  | .int k, n => inK k n
  | .bool, _ => True
  | .str, l => (∀ x ∈ l, 0 ≤ x ∧ x ≤ 255) ∧ l.length ≤ maxLen
  | .nil, _ => True
  | .cons a b, x => a.wf x.1 ∧ b.wf x.2
  | .sl t, l => (∀ x ∈ l, t.wf x) ∧ l.length ≤ maxLen
def AV.wf0 : AV → Prop
  | .int k n => inK k n
  | .str l => Ty.wf .str l
  | .imm t x => Ty.wf (.sl t) x
  | _ => True
def AV.wf1 : AV → Prop
  | .agg l => ∀ v ∈ l, v.wf0
  | v => v.wf0
def Obj.wf : Obj → Prop
  | .box l => ∀ v ∈ l, v.wf0
  | .row _ t x => Ty.wf (.sl t) x
  | .map _ kt vt l => ∀ p ∈ l, kt.wf p.1 ∧ vt.wf p.2
  | .dead => True
  | .iter s _ => (∀ x ∈ s, 0 ≤ x ∧ x ≤ 255) ∧ s.length ≤ maxLen
  | .lrec _ _ => True
section
variable {I : Nat → Prop} {w : World} {m : M}
theorem bytesI_wf (s : ByteArray) : ∀ x ∈ bytesI s, 0 ≤ x ∧ x ≤ 255 := fun x hx => by
  unfold bytesI at hx
  obtain ⟨b, _, rfl⟩ := List.mem_map.1 hx
  have := b.toNat_lt
  constructor <;> omega
theorem RC_wf : ∀ (t : Ty) (x : t.den) (cs : List Value), RC I w t x cs → t.wf x
  | .int k, n, cs, h => by simp only [RC] at h; exact h.2
  | .bool, _, _, _ => trivial
  | .str, l, cs, h => by
    simp only [RC] at h
    obtain ⟨s, _, rfl, h⟩ := h
    exact ⟨bytesI_wf s, by rw [bytesI_len]; exact h⟩
  | .nil, _, _, _ => trivial
  | .cons a b, x, cs, h => by
    simp only [RC] at h
    obtain ⟨c1, c2, _, h1, h2⟩ := h
    exact ⟨RC_wf a _ _ h1, RC_wf b _ _ h2⟩
  | .sl t, l, cs, h => by
    simp only [RC] at h
    obtain ⟨ao, len, cap, _, h1, h2, h3, h4⟩ := h
    refine ⟨fun x hx => ?_, by omega⟩
    obtain ⟨i, hi, rfl⟩ := List.mem_iff_getElem.1 hx
    obtain ⟨b, o, _, _, h5⟩ := h4 (by omega)
    obtain ⟨es, h6, _⟩ := h5 i hi
    exact RC_wf t _ _ h6
theorem RV0_wf {a : AV} {v : Value} (h : RV0 I w m a v) : a.wf0 := by
  cases a with
  | int => exact h.2
  | str => obtain ⟨s, _, rfl, h⟩ := h; exact ⟨bytesI_wf s, by rw [bytesI_len]; exact h⟩
  | imm => obtain ⟨ao, len, cap, rfl, h⟩ := h; exact RC_wf (.sl _) _ _ (RC_sl.2 ⟨ao, len, cap, rfl, h⟩)
  | _ => trivial
theorem RVL0_wf : ∀ {l : List AV} {r : List Value}, RVL0 I w m l r → ∀ v ∈ l, v.wf0
  | [], [], _ => fun v hv => by cases hv
  | _ :: _, _ :: _, h => fun v hv => by
    cases hv with
    | head => exact RV0_wf h.1
    | tail _ hv => exact RVL0_wf h.2 v hv
  | [], _ :: _, h => h.elim
  | _ :: _, [], h => h.elim
theorem RV1_wf {a : AV} {v : Value} (h : RV1 I w m a v) : a.wf1 := by
  rcases RV1_cases h with h' | ⟨l, cs, rfl, rfl, h'⟩
  · by_cases ha : ∃ l, a = .agg l
    · obtain ⟨l, rfl⟩ := ha; exact h'.elim
    · have : a.wf1 = a.wf0 := by cases a <;> first | rfl | exact absurd ⟨_, rfl⟩ ha
      rw [this]; exact RV0_wf h'
  · exact RVL0_wf h'
theorem RV2_wf {a : AV} {v : Value} (h : RV2 I w m a v) : a.wf1 := by
  rcases RV2_cases h with h' | ⟨f, l, c, fs, cs, rfl, rfl, _⟩
  · exact RV1_wf h'
  · trivial
theorem RVL2_wf : ∀ {l : List AV} {r : List Value}, RVL2 I w m l r → ∀ v ∈ l, v.wf1
  | [], [], _ => fun v hv => by cases hv
  | _ :: _, _ :: _, h => fun v hv => by
    cases hv with
    | head => exact RV2_wf h.1
    | tail _ hv => exact RVL2_wf h.2 v hv
  | [], _ :: _, h => h.elim
  | _ :: _, [], h => h.elim
theorem ObjOk_wf {i : Nat} {o : Obj} (h : ObjOk I w m i o) : o.wf := by
  cases o with
  | dead => trivial
  | box l => obtain ⟨b, cs, T, fz, _, _, _, h⟩ := h; exact RVL0_wf h
  | row fz t x =>
    obtain ⟨_, h2, h3, h4, h5⟩ := row_lies h
    refine ⟨fun y hy => ?_, by omega⟩
    obtain ⟨i, hi, rfl⟩ := List.mem_iff_getElem.1 hy
    rcases h5 with ⟨_, h5⟩ | ⟨b, _, h5⟩
    · omega
    · obtain ⟨es, h6, _⟩ := h5 i hi
      exact RC_wf t _ _ h6
  | map q kt vt l =>
    obtain ⟨b, es, c, _, _, h1, h2, _⟩ := h
    intro p hp
    obtain ⟨i, hi, rfl⟩ := List.mem_iff_getElem.1 hp
    have := h2 i hi (by omega)
    exact ⟨RC_wf kt _ _ this.1.1, RC_wf vt _ _ this.2.1⟩
  | iter s p =>
    obtain ⟨b, t, _, _, rfl, h⟩ := h
    exact ⟨bytesI_wf t, by rw [bytesI_len]; exact h⟩
  | lrec r c => trivial
theorem frz1_sound {v : AV} {st : Store} {K : AV → Store → Prop} (ev : frz1 st v K) {X0 : Bool → Nat → Prop} {I0 : Nat → Prop} {w0 : World} (hs : HS X0 I0 w0 st.get I w m) :
    ∃ v' st' I', K v' st' ∧ HS X0 I0 w0 st'.get I' w m ∧ Evo I w m I' w m ∧ ∀ cv, RV I w m v cv → RV I' w m v' cv := by
  have up : ∀ {T : List Nat} {st' : Store} {L : List Nat}, Ghost L st st' T → upd st.get T st' = st'.get := fun {T st' L} g => funext fun i => by
    unfold upd
    split
    · rfl
    · rename_i hi; exact (g.1 i hi).symm
  by_cases ha : ∃ l, v = .agg l
  · obtain ⟨l, rfl⟩ := ha
    obtain ⟨l', st', T, hK, hg, h⟩ := frzL0_sound ev
    obtain ⟨I', h1, h2, h3⟩ := h hs (fun _ _ => rfl)
    rw [up hg] at h1
    exact ⟨_, st', I', hK, h1, h2, fun cv hv => by obtain ⟨cs, rfl, hv⟩ := hv; exact ⟨cs, rfl, h3 _ hv⟩⟩
  · have e : frz1 st v K = frz0 st v K := by cases v <;> first | rfl | exact absurd ⟨_, rfl⟩ ha
    rw [e] at ev
    by_cases hb : (∃ i, v = .own i) ∨ ∃ i o n, v = .view i o n
    · obtain ⟨v', st', T, hK, hg, h⟩ := frz0_sound ev
      obtain ⟨I', h1, h2, h3⟩ := h hs (fun _ _ => rfl)
      rw [up hg] at h1
      refine ⟨v', st', I', hK, h1, h2, fun cv hv => RV_0 (h3 cv ?_)⟩
      rcases hb with ⟨i, rfl⟩ | ⟨i, o, n, rfl⟩ <;> exact hv
    · have e2 : frz0 st v K = K v st := by
        cases v <;> first | rfl | exact absurd (.inl ⟨_, rfl⟩) hb | exact absurd (.inr ⟨_, _, _, rfl⟩) hb
      rw [e2] at ev
      exact ⟨v, st, I, ev, hs, Evo.refl _ _ _, fun _ h => h⟩
end
def resOne (tmps : Array Value) : ResultVar → Sem Value
  | .tmp t => pure (tmps.getD t undef)
  | .cell a t => do loadVar t (← asAddr (tmps.getD a undef))
def resSem (rs : List ResultVar) (tmps : Array Value) : Sem (List Value) := rs.mapM (resOne tmps)
section
variable {P : Program} {X0 : Bool → Nat → Prop} {I0 : Nat → Prop} {w0 w : World}
theorem nilTo_cases {o : Option Ty} {v : AV} {K : AV → Prop} (h : nilTo o v K) : ∃ v', K v' ∧ Imp v v' := by
  unfold nilTo at h
  split at h
  · exact ⟨v, h, Imp.refl _⟩
  · split at h
    · refine ⟨_, h, fun {I w m cv} hv => ?_⟩
      have hv : cv = .slice none 0 0 := hv
      exact ⟨none, 0, 0, hv, rfl, Nat.le_refl _, Nat.zero_le _, fun h => absurd h (by omega)⟩
    · rw [force_eq] at h; exact ⟨_, h, Imp.refl _⟩
theorem nilL_cases : ∀ {zs : List (Option Ty)} {l : List AV} {K : List AV → Prop}, nilL zs l K → ∃ l', K l' ∧ ∀ {I : Nat → Prop} {w : World} {m : M} {cs : List Value}, RVL0 I w m l cs → RVL0 I w m l' cs
  | [], l, K, h => ⟨l, h, fun h => h⟩
  | _ :: _, [], K, h => ⟨[], h, fun h => h⟩
  | z :: zs, v :: r, K, h => by
    have one : ∃ v', (nilL zs r fun r => K (v' :: r)) ∧ ∀ {I : Nat → Prop} {w : World} {m : M} {cv : Value}, RV0 I w m v cv → RV0 I w m v' cv := by
      unfold nilL at h
      split at h
      · exact ⟨v, h, fun h => h⟩
      · split at h
        · exact ⟨_, h, fun {I w m cv} hv => ⟨none, 0, 0, hv, rfl, Nat.le_refl _, Nat.zero_le _, fun h => absurd h (by omega)⟩⟩
        · exact ⟨v, h, fun h => h⟩
    obtain ⟨v', h1, h2⟩ := one
    obtain ⟨r', h3, h4⟩ := nilL_cases h1
    refine ⟨v' :: r', h3, fun {I w m cs} hv => ?_⟩
    cases cs with
    | nil => exact hv.elim
    | cons c cs => exact ⟨h2 hv.1, h4 hv.2⟩
theorem nil_cases {d : RD} {v : AV} {K : AV → Prop} (h : d.nil v K) : ∃ v', K v' ∧ Imp v v' := by
  unfold RD.nil at h
  split at h
  · exact nilTo_cases h
  · split at h
    · exact ⟨v, h, Imp.refl _⟩
    · split at h
      · obtain ⟨l', h1, h2⟩ := nilL_cases h
        exact ⟨_, h1, fun {I w m cv} hv => by obtain ⟨cs, e, hv⟩ := hv; exact ⟨cs, e, h2 hv⟩⟩
      · exact nilTo_cases h
theorem rets_sound {fr : Frame} {st0 : Store} {a : Act} {I : Nat → Prop} {m : M} (hf : FRel I w m fr.get a) (hs0 : HS X0 I0 w0 st0.get I w m) : ∀ {rs : List ResultVar} {rd : List RD} {st : Store} {I1 : Nat → Prop} {K : List AV → Store → Prop}, resOk P rs rd = true → HS X0 I0 w0 st.get I1 w m → Evo I w m I1 w m → rets fr st0 st rd K →
    ∃ vs st' I2 cvs, K vs st' ∧ HS X0 I0 w0 st'.get I2 w m ∧ Evo I1 w m I2 w m ∧ RVs I2 w m vs cvs ∧ (resSem rs a.tmps).run P w = .ok cvs w
  | [], [], st, I1, K, _, hs, hE, ev => ⟨[], st, I1, [], ev, hs, Evo.refl _ _ _, ⟨rfl, fun i h => by simp at h⟩, rfl⟩
  | r :: rs, d :: rd, st, I1, K, hok, hs, hE, ev => by
    have one : ∃ v cv, (d.nil v fun v => match d.fz with
        | true => frz1 st v fun v st => rets fr st0 st rd fun vs st => K (v :: vs) st
        | false => rets fr st0 st rd fun vs st => K (v :: vs) st) ∧ RV I w m v cv ∧ (resOne a.tmps r).run P w = .ok cv w ∧ resOk P rs rd = true := by
      cases r with
      | tmp t =>
        cases d with
        | cell => cases hok
        | tmp u f ty' =>
          simp only [resOk, Bool.and_eq_true, beq_iff_eq] at hok
          obtain ⟨rfl, hok⟩ := hok
          exact ⟨_, _, ev, hf t, rfl, hok⟩
      | cell t ty =>
        cases d with
        | tmp => cases hok
        | cell u q f zs =>
          simp only [resOk, Bool.and_eq_true, beq_iff_eq] at hok
          obtain ⟨⟨rfl, hn⟩, hok⟩ := hok
          simp only [rets, retOne] at ev
          have hv := hf t
          split at ev
          · rename_i i off hg
            rw [hg] at hv
            split at ev
            · rename_i bl hl
              obtain ⟨v, hK, h⟩ := load_sound ev
              obtain ⟨b, cs, T, fz, h1, h2, _, h3⟩ := hs0.H.obj i _ hl
              obtain ⟨b', h4, h5, _⟩ := hv
              rw [h1] at h4; cases h4
              obtain ⟨cv, h6, h7⟩ := h (P := P) (base := 0) hn h3 (cells_of h2)
              rw [Nat.zero_add] at h7
              refine ⟨v, cv, hK, h6, ?_, hok⟩
              have hlv : (loadVar ty ⟨b, off, none⟩).run P w = .ok cv w := by simpa [Instr.loadAt, Instr.sureAddr] using h7
              show (do loadVar ty (← asAddr (a.tmps.getD t undef)) : Sem Value).run P w = _
              rw [h5]
              simp [asAddr, hlv]
            · exact ev.elim
          · exact ev.elim
    obtain ⟨v0, cv, ev0, hv0, hr, hok'⟩ := one
    obtain ⟨v, ev1, himp⟩ := nil_cases ev0
    have hv := himp hv0
    have fin : ∀ {v' st1 I2}, HS X0 I0 w0 (Store.get st1) I2 w m → Evo I1 w m I2 w m → RV I2 w m v' cv → (rets fr st0 st1 rd fun vs st => K (v' :: vs) st) →
        ∃ vs st' I2 cvs, K vs st' ∧ HS X0 I0 w0 (Store.get st') I2 w m ∧ Evo I1 w m I2 w m ∧ RVs I2 w m vs cvs ∧ (resSem (r :: rs) a.tmps).run P w = .ok cvs w := fun {v' st1 I2} hs1 hE1 hv1 ev2 => by
      obtain ⟨vs, st', I3, cvs, k1, k2, k3, k4, k5⟩ := rets_sound hf hs0 hok' hs1 (hE.trans hE1) ev2
      refine ⟨v' :: vs, st', I3, cv :: cvs, k1, k2, hE1.trans k3, ⟨by simp [k4.1], fun i h1 h2 => ?_⟩, ?_⟩
      · cases i with
        | zero => exact k3.rv hv1
        | succ i => exact k4.2 i (by simpa using h1) (by simpa using h2)
      · unfold resSem at k5 ⊢
        rw [List.mapM_cons, Sem.run_bind, hr, Result.andThen_ok, Sem.run_bind, k5]
        rfl
    cases hz : d.fz with
    | true =>
      rw [hz] at ev1
      obtain ⟨v', st1, I2, k1, k2, k3, k4⟩ := frz1_sound ev1 hs
      exact fin k2 k3 (k4 cv (hE.rv hv)) k1
    | false =>
      rw [hz] at ev1
      exact fin hs (Evo.refl _ _ _) (hE.rv hv) ev1
  | [], _ :: _, _, _, _, hok, _, _, _ => by cases hok
  | .tmp _ :: _, [], _, _, _, hok, _, _, _ => by cases hok
  | .cell _ _ :: _, [], _, _, _, hok, _, _, _ => by cases hok
def resVal : List Value → Value
  | [v] => v
  | vs => .tuple vs.toArray
theorem results_run {fn : Func} {tmps : Array Value} {vs : List Value} (h : (resSem fn.results.toList tmps).run P w = .ok vs w) :
    (results fn tmps).run P w = .ok (resVal vs) w := by
  have e : (fn.results.mapM (resOne tmps)).run P w = .ok vs.toArray w := by
    rw [Array.mapM_eq_mapM_toList]
    unfold resSem at h
    rw [Sem.run_map, h]; rfl
  have e2 : results fn tmps = (do let vs ← fn.results.mapM (resOne tmps); pure (if h : vs.size = 1 then vs[0] else .tuple vs)) := by
    unfold results
    congr 2
    try (funext x; cases x <;> rfl)
  rw [e2, Sem.run_bind, e, Result.andThen_ok, Sem.run_pure]
  match vs with
  | [] => rfl
  | [v] => rfl
  | _ :: _ :: _ => simp [resVal]
theorem fin_sound {n : Nat} {fn : Func} {m0 : M} {objs : List Obj} {rd : List RD} {fr : Frame} {st : Store} {nx : Nat} {I : Nat → Prop} {m : M} {a : Act} {K : AV → List Obj → Prop} (hr : resOk P fn.results.toList rd = true)
    (h : Sta n objs.length (fun b => match b with | true => XL m0 objs | false => fun b => ∃ i o, objs[i]? = some o ∧ o.live = true ∧ m0.blk i = some b) I0 w0 m0 fr st nx I w m a) (hu : ∀ i, m0.used i → i < objs.length) (ev : finK objs.length rd K fr st) :
    ∃ v cv objs' I' m', (results fn a.tmps).run P w = .ok cv w ∧ K v objs' ∧ Left I0 w0 m0 objs v cv objs' I' w m' := by
  unfold finK at ev
  obtain ⟨vs, st1, I1, cvs, k1, k2, k3, k4, k5⟩ := rets_sound h.f h.hs hr h.hs (Evo.refl _ _ _) ev
  have hlive : (List.range vs.length).map (argF 0 vs).get = vs := by
    apply List.ext_getElem (by simp)
    intro i h1 h2
    simp only [List.getElem_map, List.getElem_range, argF_get]
    rw [dif_pos (by simpa using h2)]; simp
  have hcan : canK objs.length (List.range vs.length) (argF 0 vs) st1 fun vs os => match vs with
      | [v] => post (K v os)
      | vs => match allB (fun v => match v with | .fn _ _ _ => false | _ => true) vs with | true => post (K (.tup vs) os) | false => False := by
    unfold canK
    rw [hlive]; exact k1
  have hS1 : Sta cvs.length objs.length (fun b => match b with | true => XL m0 objs | false => fun b => ∃ i o, objs[i]? = some o ∧ o.live = true ∧ m0.blk i = some b) I0 w0 m0 (argF 0 vs) st1 nx I1 w m { tmps := cvs.toArray, defers := [] } := by
    refine ⟨by simp, DefOk.nil _ _ _, fun i => ?_, k2, h.same, h.kept, h.lt⟩
    rw [argF_get]
    split
    · rename_i hi
      have h1 : i < vs.length := by omega
      have h2 : i < cvs.length := by have := k4.1; omega
      have := k4.2 i h1 h2
      simp only [Nat.sub_zero, Array.getD_eq_getD_getElem?]
      simpa [h2] using this
    · trivial
  obtain ⟨vs2, os, k6, m2, hS2, k7⟩ := canK_sound hS1 hcan
  have hcv : ((List.range vs.length).map fun i => cvs.toArray.getD i undef) = cvs := by
    apply List.ext_getElem (by simp [k4.1])
    intro i h1 h2
    simp [h2]
  simp only [hcv] at k7
  have main : ∃ v, K v os ∧ RV I1 w m2 v (resVal cvs) := by
    match vs2, cvs, k7, k6 with
    | [v], [c], k7, k6 => exact ⟨v, of_post k6, RV_of k7.1⟩
    | [], [], _, k6 => exact ⟨_, of_post k6, #[], rfl, trivial⟩
    | v :: v' :: l, c :: c' :: r, k7, k6 =>
      simp only [] at k6
      split at k6
      · rename_i hall
        refine ⟨_, of_post k6, (c :: c' :: r).toArray, rfl, ?_⟩
        have conv : ∀ {l : List AV} {r : List Value}, (∀ v ∈ l, (match v with | .fn _ _ _ => false | _ => true) = true) → RVL2 I1 w m2 l r → RVL1 I1 w m2 l r := fun {l} => by
          induction l with
          | nil => intro r _ h; cases r with | nil => trivial | cons => exact h.elim
          | cons v l ih =>
            intro r hn h
            cases r with
            | nil => exact h.elim
            | cons c r =>
              refine ⟨?_, ih (fun v hv => hn v (List.mem_cons_of_mem _ hv)) h.2⟩
              rcases RV2_cases h.1 with h' | ⟨f, l, c, _, _, rfl, _⟩
              · exact h'
              · have := hn _ (List.mem_cons_self ..); cases this
        exact conv (allB_all hall) k7
      · exact k6.elim
  obtain ⟨v, hK, hv⟩ := main
  refine ⟨v, resVal cvs, os, I1, m2, results_run k5, hK, hv, ?_, ⟨fun b hb => hS2.hs.Isub b hb, hS2.same, fun i hi => (hS2.kept i (hu i hi)).1, fun i hi => (hS2.kept i (hu i hi)).2⟩, hS2.lt, ?_, hS2.hs.fr0, fun b hb => hS2.hs.Inew b hb, fun i o b e hl hb => ?_⟩
  · have := hS2.hs.H
    rw [mkSt_ofL] at this; exact this
  · rcases Nat.eq_zero_or_pos objs.length with h0 | h0
    · omega
    · have := hS2.lt _ (hS2.kept (objs.length - 1) (by omega)).1; omega
  · have e' : (mkSt 0 os).get i = some o := by rw [mkSt_ofL]; exact e
    cases hm : o.mut with
    | true =>
      rcases hS2.hs.own i o b e' hm hb with h1 | h1
      · obtain ⟨j, o', q1, q2, q3⟩ := h1
        exact .inr ⟨j, o', q1, mut_live q2, fun _ => q2, q3⟩
      · exact .inl h1
    | false =>
      rcases hS2.hs.ownL i o b e' hl hb with h1 | h1
      · obtain ⟨j, o', q1, q2, q3⟩ := h1
        exact .inr ⟨j, o', q1, q2, fun h => (by cases h), q3⟩
      · exact .inl h1
def fnOk (P : Program) (fn : Func) (ir : IR) (rd : List RD) : Bool :=
  match fn.body with
  | some c => codeOk P fn.ntmps ir c && resOk P fn.results.toList rd && decide (fn.params.size + fn.nfree ≤ fn.ntmps) && !(fn.name == "runtime.NumGoroutine")
  | none => false
theorem fn_sound {Γ : Env} {f : FuncId} {fn : Func} {ir : IR} {rd : List RD} {S : Sum} (hf : P.funcs[f]? = some fn) (hok : fnOk P fn ir rd = true) (hΓ : EnvOk P Γ) (hdet : Det S)
    (hlen : ∀ args objs K, S args objs K → args.length = fn.params.size + fn.nfree)
    (hS : ∀ args objs K, (∀ v ∈ args, v.wf1) → (∀ o ∈ objs, o.wf) → S args objs K → evFn Γ ir rd args objs K) : SoundS P f S := by
  unfold fnOk at hok
  split at hok
  case h_2 => cases hok
  rename_i c hb
  simp only [Bool.and_eq_true, decide_eq_true_eq, Bool.not_eq_true'] at hok
  obtain ⟨⟨⟨hc, hr⟩, hp⟩, hname⟩ := hok
  refine ⟨⟨fn, hf, hname, by rw [hb]; rfl⟩, hdet, ?_⟩
  intro I w m args cargs objs K hH hA hu hSK
  have hev := hS args objs K (RVL2_wf hA) (fun o ho => by
    obtain ⟨i, hi, rfl⟩ := List.mem_iff_getElem.1 ho
    exact ObjOk_wf (hH.obj i _ (List.getElem?_eq_getElem hi))) hSK
  have hl := hlen _ _ _ hSK
  obtain ⟨hl', hget⟩ := RVL2_get hA
  have hsz : cargs.size = args.length := by rw [hl']; simp
  refine (callsIn_wide (n := 0)).1 (callsIn_of_wp_marks (F := fen none) hf hb trivial ?_)
  have hsta : Sta fn.ntmps objs.length (fun b => match b with | true => XL m objs | false => fun b => ∃ i o, objs[i]? = some o ∧ o.live = true ∧ m.blk i = some b) I w m (argF 0 args) (mkSt 0 objs) objs.length I w m
      { tmps := cargs ++ Array.replicate (fn.ntmps - cargs.size) undef, defers := [] } := by
    refine ⟨by simp; omega, DefOk.nil _ _ _, fun i => ?_, ⟨by rw [mkSt_ofL]; exact hH, Fr.refl _ _, fun _ h => h, fun _ h => .inl h, fun i o b e hm hb => ?_, fun i o b e hm hb => ?_⟩, fun _ _ => rfl, fun i hi => ⟨hH.lt i (by unfold ofL; rw [List.getElem?_eq_getElem hi]; intro h; cases h), M.same_refl _ _⟩, hu⟩
    · rw [argF_get]
      split
      · rename_i hi
        have hi1 : i < args.length := by omega
        have hi2 : i < cargs.size := by omega
        have := hget i hi1 (by simpa using hi2)
        simp only [Nat.sub_zero]
        rw [Array.getD_eq_getD_getElem?, Array.getElem?_append_left hi2, Array.getElem?_eq_getElem hi2]
        exact RV_of (by simpa using this)
      · trivial
    · rw [mkSt_ofL] at e; exact .inl ⟨i, o, e, hm, hb⟩
    · rw [mkSt_ofL] at e; exact .inl ⟨i, o, e, hm, hb⟩
  refine wpIn_mono (code_sound hΓ ir (r := none) hc (.inl rfl) hd0_ok hsta hev) ?_
  rintro e a' w' ⟨x, hx, fr', st', nx', I', m', hK, hS'⟩
  have done : finK objs.length rd K fr' st' → LeavesInM (fen none) 0 P fn a'.tmps (fun e w' => ∃ v cv objs' I' m', e = .returned cv ∧ K v objs' ∧ Left I w m objs v cv objs' I' w' m') a'.defers .returning w' := fun hr' => by
    refine leaves_marks (a := a') hH.Ilt (fun w'' a'' ht hS'' => ?_) a'.defers w' a' rfl rfl hS'
    obtain ⟨v, cv, os, I2, m2, k1, k2, k3⟩ := fin_sound hr hS'' hu hr'
    rw [ht] at k1
    exact ⟨cv, k1, v, cv, os, I2, m2, rfl, k2, k3⟩
  cases e <;> simp only [toEx, Option.some.injEq, reduceCtorEq] at hx <;> subst hx
  · exact done hK
  · exact hK.elim
  · exact done hK
theorem env_nil (P : Program) : EnvOk P [] := fun x hx => by cases hx
theorem env_cons {f : FuncId} {s : SumK} {Γ : Env} (h : SoundS P f s.sum) (h' : EnvOk P Γ) : EnvOk P ((f, s) :: Γ) := fun x hx => by
  cases hx with
  | head => exact h
  | tail _ hx => exact h' x hx
end
end Go.Eng
