/- Elements in cells; rows told as data; what is claimed of an operation on memory; operations that read. No condition. -/
import Derived.Test.YtoejpijobbcooaaDoorEOps2
namespace Go.Eng
set_option linter.unusedVariables false
set_option linter.unusedSimpArgs false
open Go.RowKit
/-- Data whose cells a function of places tells. -/
def EA (I : Nat → Prop) (w : World) (t : Ty) (x : List t.den) (f : Nat → Option Value) : Prop :=
  ∀ i (h : i < x.length), ∃ es, RC I w t x[i] es ∧ ∀ j (hj : j < es.length), f (i * t.size + j) = some es[j]
section ea
variable {I I' : Nat → Prop} {w w' : World} {t : Ty} {x y : List t.den} {f g : Nat → Option Value}
theorem EA.mono (hI : ∀ b, I b → I' b) (hs : Same I w w') (h : EA I w t x f) : EA I' w' t x f := fun i hi => by
  obtain ⟨es, h1, h2⟩ := h i hi
  exact ⟨es, RC_mono hI hs t _ _ h1, h2⟩
theorem EA.congr (h : EA I w t x f) (e : ∀ k, k < x.length * t.size → g k = f k) : EA I w t x g := fun i hi => by
  obtain ⟨es, h1, h2⟩ := h i hi
  refine ⟨es, h1, fun j hj => ?_⟩
  have hl := RC_length t _ _ h1
  rw [e]
  · exact h2 j hj
  · have : (i + 1) * t.size ≤ x.length * t.size := Nat.mul_le_mul_right _ hi
    rw [Nat.add_mul] at this; omega
theorem EA.append (h : EA I w t x f) (k : EA I w t y (fun j => f (x.length * t.size + j))) : EA I w t (x ++ y) f := fun i hi => by
  by_cases hx : i < x.length
  · rw [List.getElem_append_left hx]; exact h i hx
  · rw [List.getElem_append_right (by omega)]
    simp only [List.length_append] at hi
    obtain ⟨es, h1, h2⟩ := k (i - x.length) (by omega)
    refine ⟨es, h1, fun j hj => ?_⟩
    have := h2 j hj
    rw [← this]
    congr 1
    have e : i * t.size = x.length * t.size + (i - x.length) * t.size := by rw [← Nat.add_mul]; congr 1; omega
    omega
theorem EA.take (h : EA I w t x f) (n : Nat) : EA I w t (x.take n) f := fun i hi => by
  simp only [List.length_take] at hi
  rw [List.getElem_take]; exact h i (by omega)
theorem EA.drop (h : EA I w t x f) (n : Nat) : EA I w t (x.drop n) (fun k => f (n * t.size + k)) := fun i hi => by
  simp only [List.length_drop] at hi
  rw [List.getElem_drop]
  obtain ⟨es, h1, h2⟩ := h (n + i) (by omega)
  refine ⟨es, h1, fun j hj => ?_⟩
  have := h2 j hj
  rw [← this]
  show f (n * t.size + (i * t.size + j)) = _
  congr 1; rw [Nat.add_mul]; omega
theorem EA.nil : EA I w t [] f := fun i hi => by simp at hi
theorem EA.plain (hp : t.plain = true) (h : EA I w t x f) : EA I' w' t x f := fun i hi => by
  obtain ⟨es, h1, h2⟩ := h i hi
  exact ⟨es, RC_plain t _ _ hp h1, h2⟩
theorem EA.replicate {z : t.den} {n : Nat} {es : List Value} (hz : RC I w t z es) (h : ∀ k, k < n * t.size → f k = es[k % t.size]?) : EA I w t (List.replicate n z) f := fun i hi => by
  simp only [List.length_replicate] at hi
  have hl := RC_length t _ _ hz
  rw [List.getElem_replicate]
  refine ⟨es, hz, fun j hj => ?_⟩
  have h1 : (i + 1) * t.size ≤ n * t.size := Nat.mul_le_mul_right _ hi
  rw [h _ (by rw [Nat.add_mul] at h1; omega)]
  rw [Nat.mul_comm, Nat.mul_add_mod, Nat.mod_eq_of_lt (by omega)]
  exact List.getElem?_eq_getElem hj
theorem EA.set (h : EA I w t x f) {i : Nat} {z : t.den} {es : List Value} (hz : RC I w t z es) (hi : i < x.length) (h1 : ∀ j (hj : j < es.length), g (i * t.size + j) = some es[j]) (h2 : ∀ k, k < x.length * t.size → (k < i * t.size ∨ (i + 1) * t.size ≤ k) → g k = f k) : EA I w t (x.set i z) g := fun k hk => by
  simp only [List.length_set] at hk
  by_cases e : k = i
  · subst e; rw [List.getElem_set_self]; exact ⟨es, hz, h1⟩
  · rw [List.getElem_set_ne (fun h => e h.symm)]
    obtain ⟨cs, h3, h4⟩ := h k hk
    refine ⟨cs, h3, fun j hj => ?_⟩
    have hl := RC_length t _ _ h3
    rw [h2]
    · exact h4 j hj
    · have : (k + 1) * t.size ≤ x.length * t.size := Nat.mul_le_mul_right _ hk
      rw [Nat.add_mul] at this; omega
    · rcases Nat.lt_or_gt_of_ne e with h | h
      · left
        have : (k + 1) * t.size ≤ i * t.size := Nat.mul_le_mul_right _ h
        rw [Nat.add_mul] at this; omega
      · right
        have : (i + 1) * t.size ≤ k * t.size := Nat.mul_le_mul_right _ h
        omega
end ea
theorem RS_ea {I : Nat → Prop} {w : World} {t : Ty} {l : List t.den} {ao : Option Addr} {len cap : Nat} : RS I w t l ao len cap ↔
    len = l.length ∧ len ≤ cap ∧ cap ≤ maxLen ∧ (0 < len → ∃ b o, ao = some ⟨b, o, none⟩ ∧ I b ∧ EA I w t l fun k => w.cell? ⟨b, o + k, none⟩) := by
  unfold RS EA
  simp only [Nat.add_assoc]
theorem EA.at {I : Nat → Prop} {w : World} {t : Ty} {x : List t.den} {f : Nat → Option Value} (h : EA I w t x f) : ∀ i (h : i < x.length), ∃ es, RC I w t x[i] es ∧ ∀ j (hj : j < es.length), f (i * t.size + j) = some es[j] := h
/-- Where a row lies. -/
theorem row_lies {I : Nat → Prop} {w : World} {m : M} {i : Nat} {fz : Bool} {t : Ty} {x : List t.den} (h : ObjOk I w m i (.row fz t x)) :
    m.sz i = t.size ∧ x.length = m.len i ∧ x.length ≤ m.cap i ∧ m.cap i ≤ maxLen ∧ ((m.blk i = none ∧ m.cap i = 0) ∨ ∃ b, m.blk i = some b ∧ EA I w t x fun k => w.cell? ⟨b, k, none⟩) := by
  obtain ⟨h1, h2, h3, h4, h5⟩ := h
  refine ⟨h1, h2, h3, h4, ?_⟩
  rcases h5 with h5 | ⟨b, cs, T, f, h6, h7, _, h8, h9⟩
  · exact .inl h5
  · refine .inr ⟨b, h6, ?_⟩
    have h9 : EA I w t x fun k => cs[k]? := h9
    exact h9.congr fun k hk => by rw [cell_block h7]
theorem own_imm {I I' : Nat → Prop} {w : World} {m : M} {i : Nat} {fz : Bool} {t : Ty} {x : List t.den} {cv : Value} (hI : ∀ b, I b → I' b) (h : ObjOk I w m i (.row fz t x)) (hv : RV0 I w m (.own i) cv) (hb : ∀ b, m.blk i = some b → I' b) :
    RV0 I' w m (.imm t x) cv := by
  obtain ⟨ao, len, cap, rfl, h1, h2, h3, h4, h5, h6⟩ := hv
  obtain ⟨k1, k2, k3, k4, k5⟩ := row_lies h
  refine ⟨ao, len, cap, rfl, RS_ea.2 ⟨by omega, h4, h5, fun h0 => ?_⟩⟩
  rcases k5 with ⟨k5, k6⟩ | ⟨b, k5, k6⟩
  · omega
  · rcases h6 with ⟨h6, _⟩ | ⟨b', h6, h7⟩
    · rw [k5] at h6; cases h6
    · rw [k5] at h6; cases h6
      refine ⟨b, 0, h7, hb b k5, (k6.mono hI (fun _ _ => rfl)).congr fun k _ => by rw [Nat.zero_add]⟩
theorem view_imm {I I' : Nat → Prop} {w : World} {m : M} {i off n : Nat} {fz : Bool} {t : Ty} {x : List t.den} {cv : Value} (hI : ∀ b, I b → I' b) (h : ObjOk I w m i (.row fz t x)) (hv : RV0 I w m (.view i off n) cv) (hn : off + n ≤ x.length) (hb : ∀ b, m.blk i = some b → I' b) :
    RV0 I' w m (.imm t ((x.drop off).take n)) cv := by
  obtain ⟨ao, len, cap, rfl, h1, h2, h3, h4, h5, h6⟩ := hv
  obtain ⟨k1, k2, k3, k4, k5⟩ := row_lies h
  refine ⟨ao, len, cap, rfl, RS_ea.2 ⟨by simp; omega, h3, by omega, fun h0 => ?_⟩⟩
  rcases k5 with ⟨k5, k6⟩ | ⟨b, k5, k6⟩
  · omega
  · rcases h6 with ⟨h6, _⟩ | ⟨b', o, h6, h7, h8⟩
    · rw [k5] at h6; cases h6
    · rw [k5] at h6; cases h6
      refine ⟨b, o, h7, hb b k5, (((k6.mono hI (fun _ _ => rfl)).drop off).take n).congr fun k _ => by rw [h8 (by omega), k1]⟩
def upd (σ : Sto) (T : List Nat) (st : Store) : Sto := fun i => if i ∈ T then st.get i else σ i
theorem upd_nil (σ : Sto) (st : Store) : upd σ [] st = σ := funext fun i => by simp [upd]
theorem upd_in {σ : Sto} {T : List Nat} {st : Store} {i : Nat} (h : i ∈ T) : upd σ T st i = st.get i := if_pos h
theorem upd_out {σ : Sto} {T : List Nat} {st : Store} {i : Nat} (h : i ∉ T) : upd σ T st i = σ i := if_neg h
/-- An operation runs: whatever is asked of what it leaves. -/
def OpRun (P : Program) (o : Oper) (a : Act) (w : World) (R : Value → (Nat → Prop) → World → M → Prop) : Prop :=
  ∀ (N : Act → World → Prop) (Q : Exit → Act → World → Prop), (∀ cv I' w' m', R cv I' w' m' → N (a.put o.dst cv) w') → o.wp P a w N Q
def Good (X0 : Bool → Nat → Prop) (I0 : Nat → Prop) (w0 : World) (I : Nat → Prop) (w : World) (m : M) (σ' : Sto) (v : AV) (nx nx' : Nat) : Value → (Nat → Prop) → World → M → Prop := fun cv I' w' m' =>
  RV I' w' m' v cv ∧ HS X0 I0 w0 σ' I' w' m' ∧ Evo I w m I' w' m' ∧ ∀ i, m'.used i → m.used i ∨ (nx ≤ i ∧ i < nx')
/-- What is claimed of an operation: it has one value and one store behind it, told ahead of any memory; F: the numbers that it looks at, wr: whether it writes there. -/
def MOK (P : Program) (o : Oper) (L : List Opd) (fr : Frame) (F : List Nat) (wr : Bool) (st : Store) (nx : Nat) (K : AV → Store → Nat → Prop) : Prop :=
  ∃ v st1 nx' T, nx ≤ nx' ∧ K v st1 nx' ∧ (∀ i, i ∉ T → st1.get i = st.get i) ∧ (∀ i ∈ T, (wr = true ∧ i ∈ F ∧ st.get i ≠ none) ∨ (nx ≤ i ∧ i < nx')) ∧
    ∀ {X0 : Bool → Nat → Prop} {I0 : Nat → Prop} {w0 : World} {σ : Sto} {I : Nat → Prop} {w : World} {m : M} {a : Act}, FOn L fr I w m a → HS X0 I0 w0 σ I w m → (∀ i ∈ F, σ i = st.get i) → (∀ i, nx ≤ i → i < nx' → ¬ m.used i) →
      OpRun P o a w (Good X0 I0 w0 I w m (upd σ T st1) v nx nx')
section mok
variable {P : Program} {o : Oper} {L : List Opd} {fr : Frame} {F : List Nat} {wr : Bool} {st : Store} {nx : Nat} {K : AV → Store → Nat → Prop}
theorem run_val {a : Act} {w w' : World} {cv : Value} {R : Value → (Nat → Prop) → World → M → Prop} {I' : Nat → Prop} {m' : M} (hr : (execOp a.eval o).run P w = .ok (.value cv) w') (h : R cv I' w' m') : OpRun P o a w R := fun N Q k => by
  unfold Oper.wp
  rw [hr]
  exact k cv I' w' m' h
theorem run_skip {a : Act} {w w' : World} {R : Value → (Nat → Prop) → World → M → Prop} {I' : Nat → Prop} {m' : M} (hr : (execOp a.eval o).run P w = .ok .skip w') (h : R undef I' w' m') : OpRun P o a w R := fun N Q k => by
  unfold Oper.wp
  rw [hr]
  exact k undef I' w' m' h
/-- One that leaves the memory as it is. -/
theorem mok_read {v : AV} (hK : K v st nx) (h : ∀ {I : Nat → Prop} {w : World} {m : M} {a : Act} {σ : Sto}, FOn L fr I w m a → HRel I w m σ → (∀ i ∈ F, σ i = st.get i) → ∃ S : Sem Value, execOp a.eval o = (do pure (.value (← S))) ∧ ∃ cv, RV I w m v cv ∧ S.run P w = .ok cv w) :
    MOK P o L fr F wr st nx K :=
  ⟨v, st, nx, [], Nat.le_refl _, hK, fun _ _ => rfl, fun i hi => (by cases hi), fun {X0 I0 w0 σ I w m a} hf hs ha _ => by
    obtain ⟨S, he, cv, hv, hr⟩ := h hf hs.H ha
    rw [upd_nil]
    exact run_val (exec_v he hr) ⟨hv, hs, Evo.refl _ _ _, fun _ h => .inl h⟩⟩
theorem mok_pure (h : POK P o L fr (fun v => K v st nx)) : MOK P o L fr F wr st nx K := by
  obtain ⟨v, hK, h⟩ := h
  refine ⟨v, st, nx, [], Nat.le_refl _, hK, fun _ _ => rfl, fun i hi => (by cases hi), fun {X0 I0 w0 σ I w m a} hf hs ha _ => ?_⟩
  obtain ⟨cv, hv, hr⟩ := h hf
  rw [upd_nil]
  exact run_val hr ⟨hv, hs, Evo.refl _ _ _, fun _ h => .inl h⟩
/-- One that makes a thing. -/
theorem mok_new {v : AV} {ob : Obj} (hK : K v ((nx, ob) :: st) (nx + 1)) (hfz : ∀ t x, ob ≠ .row true t x)
    (h : ∀ {I : Nat → Prop} {w : World} {m : M} {a : Act} {σ : Sto}, FOn L fr I w m a → HRel I w m σ → (∀ i ∈ F, σ i = st.get i) → ¬ m.used nx → ∃ S : Sem Value, execOp a.eval o = (do pure (.value (← S))) ∧ ∃ cv w' blk cap len sz,
      S.run P w = .ok cv w' ∧ Fr (fun _ => False) w w' ∧ (∀ b, blk = some b → w.heap.size ≤ b) ∧ (Same I w w' → ObjOk I w' (m.push nx blk cap len sz) nx ob) ∧ (Same I w w' → RV I w' (m.push nx blk cap len sz) v cv)) :
    MOK P o L fr F wr st nx K := by
  refine ⟨v, (nx, ob) :: st, nx + 1, [nx], Nat.le_succ _, hK, fun i hi => ?_, fun i hi => ?_, fun {X0 I0 w0 σ I w m a} hf hs ha hN => ?_⟩
  · rw [Store.get_cons, if_neg (by simpa using hi)]
  · simp only [List.mem_singleton] at hi; exact .inr ⟨by omega, by omega⟩
  · have hu := hN nx (Nat.le_refl _) (Nat.lt_succ_self _)
    obtain ⟨S, he, cv, w', blk, cap, len, sz, hr, hfr, hb, ho, hv⟩ := h hf hs.H ha hu
    have hsame : Same I w w' := fun b hb => hfr.block b (hs.H.Ilt b hb) id
    have hE : Evo I w m I w' (m.push nx blk cap len sz) := ⟨fun _ h => h, hsame, M.push_le hu⟩
    have hge : ∀ b, (m.push nx blk cap len sz).blk nx = some b → w.heap.size ≤ b := fun b e => by rw [M.push_blk] at e; exact hb b e
    have hget : ∀ i, upd σ [nx] ((nx, ob) :: st) i = if i = nx then some ob else σ i := fun i => by
      unfold upd
      simp only [List.mem_singleton, Store.get_cons]
      split <;> rfl
    refine run_val (exec_v he hr) ⟨hv hsame, hs.step hE (fun i => i = nx) (fun i hi => by rw [hget, if_neg hi]) (hfr.weak fun b h => h.elim) (fun b h => .inl h) (fun b h => Nat.lt_of_lt_of_le (hs.H.Ilt b h) hfr.size)
      (fun i o' hi e => ?_) (fun i o' b hi e hl hbb => ?_) (fun i j o' o'' b hi hj _ _ _ _ _ _ => hi.trans hj.symm) (fun i o' b hi e hm hbb hI => ?_) (fun i t x b hi e hbb => ?_), hE, fun i hi => ?_⟩
    · subst hi; rw [hget, if_pos rfl] at e; cases e; exact ⟨.inr rfl, ho hsame⟩
    · subst hi; exact .inl (hge b hbb)
    · subst hi; have := hge b hbb; have := hs.H.Ilt b hI; omega
    · subst hi; rw [hget, if_pos rfl] at e; cases e; exact absurd rfl (hfz t x)
    · rcases hi with h | h
      · exact .inl h
      · subst h; exact .inr ⟨Nat.le_refl _, Nat.lt_succ_self _⟩
end mok
/-- Things are held to be read only. -/
def Ghost (L : List Nat) (st st' : Store) (T : List Nat) : Prop :=
  (∀ i, i ∉ T → st'.get i = st.get i) ∧ (∀ i ∈ T, i ∈ L ∧ st.get i ≠ none)
theorem freeze_row {X0 : Bool → Nat → Prop} {I0 : Nat → Prop} {w0 : World} {σ : Sto} {I : Nat → Prop} {w : World} {m : M} {i : Nat} {t : Ty} {x : List t.den} {st : Store} (hs : HS X0 I0 w0 σ I w m) (hi : σ i = some (.row false t x)) :
    HS X0 I0 w0 (upd σ [i] (st.set i (.row true t x))) (fun b => I b ∨ m.blk i = some b) w m ∧ Evo I w m (fun b => I b ∨ m.blk i = some b) w m := by
  have hE : Evo I w m (fun b => I b ∨ m.blk i = some b) w m := ⟨fun _ h => .inl h, fun _ _ => rfl, m.le_refl⟩
  have hget : ∀ j, upd σ [i] (st.set i (.row true t x)) j = if j = i then some (.row true t x) else σ j := fun j => by
    unfold upd
    simp only [List.mem_singleton, Store.get_set]
    split <;> rfl
  have hok := hs.H.obj i _ hi
  refine ⟨hs.step hE (fun j => j = i) (fun j hj => by rw [hget, if_neg hj]) (Fr.refl _ _) (fun b hb => ?_) (fun b hb => ?_) (fun j o hj e => ?_) (fun j o b hj e hl hb => ?_) (fun j k o o' b hj hk _ _ _ _ _ _ => hj.trans hk.symm) (fun j o b hj e hm hb => ?_) (fun j t' x' b hj e hb => ?_), hE⟩
  · rcases hb with h | h
    · exact .inl h
    · exact .inr (.inr ⟨i, _, rfl, hi, rfl, h⟩)
  · rcases hb with h | h
    · exact hs.H.Ilt b h
    · exact hok.lt rfl h
  · subst hj; rw [hget, if_pos rfl] at e; cases e
    exact ⟨hs.H.lt j (by rw [hi]; intro h; cases h), (hok.mono (fun _ h => .inl h) (fun _ _ => rfl) m.le_refl (hs.H.lt j (by rw [hi]; intro h; cases h)) (fun _ _ _ => rfl) : ObjOk _ w m j (.row false t x))⟩
  · subst hj; rw [hget, if_pos rfl] at e; cases e
    exact .inr ⟨j, _, rfl, hi, rfl, fun h => (by cases h), hb⟩
  · subst hj; rw [hget, if_pos rfl] at e; cases e; cases hm
  · subst hj; exact .inr hb
theorem frz0_sound {v : AV} {st : Store} {K : AV → Store → Prop} (ev : frz0 st v K) : ∃ v' st' T, K v' st' ∧ Ghost v.ids0 st st' T ∧
    ∀ {X0 : Bool → Nat → Prop} {I0 : Nat → Prop} {w0 : World} {σ : Sto} {I : Nat → Prop} {w : World} {m : M}, HS X0 I0 w0 σ I w m → (∀ i ∈ v.ids0, σ i = st.get i) → ∃ I', HS X0 I0 w0 (upd σ T st') I' w m ∧ Evo I w m I' w m ∧ ∀ cv, RV0 I w m v cv → RV0 I' w m v' cv := by
  unfold frz0 at ev
  split at ev
  · rename_i i
    split at ev
    · rename_i fz t x hg
      cases fz with
      | true =>
        refine ⟨_, st, [], ev, ⟨fun _ _ => rfl, fun i hi => (by cases hi)⟩, fun {X0 I0 w0 σ I w m} hs ha => ⟨I, by rw [upd_nil]; exact hs, Evo.refl _ _ _, fun cv hv => ?_⟩⟩
        have hi : σ i = some (.row true t x) := by rw [ha i (by simp [AV.ids0]), hg]
        exact own_imm (fun _ h => h) (hs.H.obj i _ hi) hv fun b hb => hs.H.isI i t x b hi hb
      | false =>
        simp only [Store.setK_eq] at ev
        refine ⟨_, _, [i], ev, ⟨fun j hj => ?_, fun j hj => ⟨hj, by simp only [List.mem_singleton] at hj; subst hj; rw [hg]; intro h; cases h⟩⟩, fun {X0 I0 w0 σ I w m} hs ha => ?_⟩
        · rw [Store.get_set, if_neg (by simpa using hj)]
        · have hi : σ i = some (.row false t x) := by rw [ha i (by simp [AV.ids0]), hg]
          obtain ⟨h1, h2⟩ := freeze_row (st := st) hs hi
          exact ⟨_, h1, h2, fun cv hv => own_imm (fun _ h => .inl h) (hs.H.obj i _ hi) hv fun b hb => .inr hb⟩
    · exact ev.elim
  · rename_i i off n
    split at ev
    · rename_i fz t x hg
      obtain ⟨hn, ev⟩ := need_both ev
      cases fz with
      | true =>
        refine ⟨_, st, [], ev, ⟨fun _ _ => rfl, fun i hi => (by cases hi)⟩, fun {X0 I0 w0 σ I w m} hs ha => ⟨I, by rw [upd_nil]; exact hs, Evo.refl _ _ _, fun cv hv => ?_⟩⟩
        have hi : σ i = some (.row true t x) := by rw [ha i (by simp [AV.ids0]), hg]
        exact view_imm (fun _ h => h) (hs.H.obj i _ hi) hv hn fun b hb => hs.H.isI i t x b hi hb
      | false =>
        simp only [Store.setK_eq] at ev
        refine ⟨_, _, [i], ev, ⟨fun j hj => ?_, fun j hj => ⟨hj, by simp only [List.mem_singleton] at hj; subst hj; rw [hg]; intro h; cases h⟩⟩, fun {X0 I0 w0 σ I w m} hs ha => ?_⟩
        · rw [Store.get_set, if_neg (by simpa using hj)]
        · have hi : σ i = some (.row false t x) := by rw [ha i (by simp [AV.ids0]), hg]
          obtain ⟨h1, h2⟩ := freeze_row (st := st) hs hi
          exact ⟨_, h1, h2, fun cv hv => view_imm (fun _ h => .inl h) (hs.H.obj i _ hi) hv hn fun b hb => .inr hb⟩
    · exact ev.elim
  · exact ⟨v, st, [], ev, ⟨fun _ _ => rfl, fun i hi => (by cases hi)⟩, fun {X0 I0 w0 σ I w m} hs _ => ⟨I, by rw [upd_nil]; exact hs, Evo.refl _ _ _, fun _ h => h⟩⟩
theorem upd_upd {σ : Sto} {T1 T2 : List Nat} {st1 st2 : Store} (h : ∀ i, i ∉ T2 → st2.get i = st1.get i) : upd (upd σ T1 st1) T2 st2 = upd σ (T1 ++ T2) st2 := funext fun i => by
  unfold upd
  by_cases h2 : i ∈ T2
  · rw [if_pos h2, if_pos (List.mem_append.2 (.inr h2))]
  · rw [if_neg h2]
    by_cases h1 : i ∈ T1
    · rw [if_pos h1, if_pos (List.mem_append.2 (.inl h1)), h i h2]
    · rw [if_neg h1, if_neg (fun h => (List.mem_append.1 h).elim h1 h2)]
theorem upd_agree {σ : Sto} {T : List Nat} {st st1 : Store} {F : List Nat} (hg : ∀ i, i ∉ T → st1.get i = st.get i) (ha : ∀ i ∈ F, σ i = st.get i) : ∀ i ∈ F, upd σ T st1 i = st1.get i := fun i hi => by
  unfold upd
  split
  · rfl
  · rename_i h; rw [ha i hi, hg i h]
theorem frzL0_sound : ∀ {l : List AV} {st : Store} {K : List AV → Store → Prop}, frzL0 st l K → ∃ l' st' T, K l' st' ∧ Ghost (idsL0 l) st st' T ∧
    ∀ {X0 : Bool → Nat → Prop} {I0 : Nat → Prop} {w0 : World} {σ : Sto} {I : Nat → Prop} {w : World} {m : M}, HS X0 I0 w0 σ I w m → (∀ i ∈ idsL0 l, σ i = st.get i) → ∃ I', HS X0 I0 w0 (upd σ T st') I' w m ∧ Evo I w m I' w m ∧ ∀ cs, RVL0 I w m l cs → RVL0 I' w m l' cs
  | [], st, K, ev => ⟨[], st, [], ev, ⟨fun _ _ => rfl, fun i hi => (by cases hi)⟩, fun {X0 I0 w0 σ I w m} hs _ => ⟨I, by rw [upd_nil]; exact hs, Evo.refl _ _ _, fun _ h => h⟩⟩
  | v :: r, st, K, ev => by
    simp only [frzL0] at ev
    obtain ⟨v', st1, T1, ev1, ⟨g1, g2⟩, h1⟩ := frz0_sound ev
    obtain ⟨l', st2, T2, ev2, ⟨g3, g4⟩, h2⟩ := frzL0_sound ev1
    have hids : idsL0 (v :: r) = v.ids0 ++ idsL0 r := by simp [idsL0]
    refine ⟨v' :: l', st2, T1 ++ T2, ev2, ⟨fun i hi => ?_, fun i hi => ?_⟩, fun {X0 I0 w0 σ I w m} hs ha => ?_⟩
    · simp only [List.mem_append, not_or] at hi; rw [g3 i hi.2, g1 i hi.1]
    · rw [hids]
      rcases List.mem_append.1 hi with h | h
      · exact ⟨List.mem_append.2 (.inl (g2 i h).1), (g2 i h).2⟩
      · refine ⟨List.mem_append.2 (.inr (g4 i h).1), ?_⟩
        by_cases h1 : i ∈ T1
        · exact (g2 i h1).2
        · rw [← g1 i h1]; exact (g4 i h).2
    · rw [hids] at ha
      obtain ⟨I1, k1, k2, k3⟩ := h1 hs fun i hi => ha i (List.mem_append.2 (.inl hi))
      obtain ⟨I2, k4, k5, k6⟩ := h2 k1 (upd_agree g1 fun i hi => ha i (List.mem_append.2 (.inr hi)))
      refine ⟨I2, by rw [upd_upd g3] at k4; exact k4, k2.trans k5, fun cs hcs => ?_⟩
      cases cs with
      | nil => exact hcs.elim
      | cons c cs => exact ⟨RV0_mono k5.up k5.same k5.m _ _ (k3 c hcs.1), k6 cs (RVL0_mono k2.up k2.same k2.m _ _ hcs.2)⟩
/-- What a slice's elements are read from. -/
def Src (I : Nat → Prop) (w : World) (t : Ty) (x : List t.den) (cv : Value) : Prop :=
  ∃ ao len cap, cv = .slice ao len cap ∧ len = x.length ∧ len ≤ maxLen ∧ (0 < len → ∃ b o, ao = some ⟨b, o, none⟩ ∧ EA I w t x fun k => w.cell? ⟨b, o + k, none⟩)
theorem bview_cells {I : Nat → Prop} {w : World} {m : M} {i off n : Nat} {t : Ty} {l : List AV} {K : List t.den → Prop} (ev : bviewK off n t l K) :
    ∃ x : List t.den, K x ∧ (∀ K' : List t.den → Prop, bviewK off n t l K' = K' x) ∧ x.length = n ∧ ∀ {I : Nat → Prop} {w : World} {m : M} {i : Nat}, ObjOk I w m i (.box l) → ∃ b, m.blk i = some b ∧ EA I w t x fun k => w.cell? ⟨b, off + k, none⟩ := by
  unfold bviewK at ev
  split at ev
  · rename_i hle0
    have hle := Nat.le_of_ble_eq_true hle0
    split at ev
    · rename_i x hx
      have hlen : x.length = n := by
        have key : ∀ (n : Nat) (l : List AV) (x : List t.den), t.all n l = some x → x.length = n := by
          intro n
          induction n with
          | zero => intro l x h; cases l <;> simp [Ty.all] at h; subst h; rfl
          | succ n ih =>
            intro l x h
            simp only [Ty.all] at h
            split at h
            · split at h
              · rename_i z hz
                cases h
                simp [ih _ _ hz]
              · cases h
            · cases h
        exact key _ _ _ hx
      refine ⟨x, ev, fun K' => by simp only [bviewK, hle0, hx], hlen, fun {I w m i} ho => ?_⟩
      obtain ⟨b, cs, T, fz, h1, h2, _, h3⟩ := ho
      refine ⟨b, h1, ?_⟩
      have h4 := RVL0_take (n * t.size) (RVL0_drop off h3)
      obtain ⟨_, h6, h7⟩ := all_sound n _ _ x h4 hx
      intro j hj
      obtain ⟨es, h8, h9⟩ := h7 j hj
      refine ⟨es, h8, fun q hq => ?_⟩
      have h10 := h9 q hq
      have hl := RC_length t _ _ h8
      have hlt : j * t.size + q < n * t.size := by
        have : (j + 1) * t.size ≤ n * t.size := Nat.mul_le_mul_right _ (by omega)
        rw [Nat.add_mul] at this; omega
      rw [List.getElem?_take, if_pos hlt, List.getElem?_drop, Array.getElem?_toList] at h10
      show w.cell? ⟨b, off + (j * t.size + q), none⟩ = _
      rw [cell_block h2]; exact h10
    · exact ev.elim
  · exact ev.elim
theorem dataK_sound {t : Ty} {st : Store} {v : AV} {K : List t.den → Prop} (ev : dataK t st v K) : ∃ ys, K ys ∧
    ∀ {I : Nat → Prop} {w : World} {m : M} {σ : Sto} {cv : Value}, HRel I w m σ → (∀ i ∈ v.ids0, σ i = st.get i) → RV0 I w m v cv → Src I w t ys cv := by
  unfold dataK at ev
  split at ev
  · refine ⟨[], ev, fun {I w m σ cv} hH ha hv => ⟨none, 0, 0, hv, rfl, Nat.zero_le _, fun h => absurd h (by omega)⟩⟩
  · rename_i t' x
    obtain ⟨rfl, ev⟩ := castK_cases ev
    refine ⟨x, ev, fun {I w m σ cv} hH ha hv => ?_⟩
    obtain ⟨ao, len, cap, rfl, h⟩ := hv
    obtain ⟨h1, h2, h3, h4⟩ := RS_ea.1 h
    exact ⟨ao, len, cap, rfl, h1, Nat.le_trans h2 h3, fun h0 => let ⟨b, o, e, _, h5⟩ := h4 h0; ⟨b, o, e, h5⟩⟩
  · rename_i i
    split at ev
    · rename_i fz t' x hg
      obtain ⟨rfl, ev⟩ := castK_cases ev
      refine ⟨x, ev, fun {I w m σ cv} hH ha hv => ?_⟩
      have hi : σ i = some (.row fz t' x) := by rw [ha i (by simp [AV.ids0]), hg]
      obtain ⟨ao, len, cap, rfl, h⟩ := own_imm (I' := fun b => I b ∨ m.blk i = some b) (fun _ h => .inl h) (hH.obj i _ hi) hv fun b hb => .inr hb
      obtain ⟨h1, h2, h3, h4⟩ := RS_ea.1 h
      obtain ⟨k1, k2, k3, k4, k5⟩ := row_lies (hH.obj i _ hi)
      refine ⟨ao, len, cap, rfl, h1, Nat.le_trans h2 h3, fun h0 => ?_⟩
      obtain ⟨ao', len', cap', e, h5, h6, h7, h8, h9, h10⟩ := hv
      cases e
      rcases k5 with ⟨_, k6⟩ | ⟨b, k5, k6⟩
      · omega
      · rcases h10 with ⟨h10, _⟩ | ⟨b', h10, h11⟩
        · rw [k5] at h10; cases h10
        · rw [k5] at h10; cases h10
          exact ⟨b, 0, h11, k6.congr fun k _ => by rw [Nat.zero_add]⟩
    · exact ev.elim
  · rename_i i off n
    split at ev
    · rename_i fz t' x hg
      obtain ⟨rfl, ev⟩ := castK_cases ev
      obtain ⟨hn, ev⟩ := need_both ev
      refine ⟨_, ev, fun {I w m σ cv} hH ha hv => ?_⟩
      have hi : σ i = some (.row fz t' x) := by rw [ha i (by simp [AV.ids0]), hg]
      obtain ⟨k1, k2, k3, k4, k5⟩ := row_lies (hH.obj i _ hi)
      obtain ⟨ao, len, cap, rfl, h5, h6, h7, h8, h9, h10⟩ := hv
      refine ⟨ao, len, cap, rfl, by simp at hn ⊢; omega, by omega, fun h0 => ?_⟩
      rcases k5 with ⟨_, k6⟩ | ⟨b, k5, k6⟩
      · omega
      · rcases h10 with ⟨h10, _⟩ | ⟨b', o, h10, h11, h12⟩
        · rw [k5] at h10; cases h10
        · rw [k5] at h10; cases h10
          exact ⟨b, o, h11, ((k6.drop off).take n).congr fun k _ => by rw [h12 (by omega), k1]⟩
    · exact ev.elim
  · rename_i i off n t'
    split at ev
    · rename_i l hg
      obtain ⟨x, ev, _, hlen, h⟩ := bview_cells (I := fun _ => False) (w := default) (m := ⟨fun _ => none, fun _ => 0, fun _ => 0, fun _ => 0, fun _ => False⟩) (i := 0) ev
      obtain ⟨rfl, ev⟩ := castK_cases ev
      refine ⟨x, ev, fun {I w m σ cv} hH ha hv => ?_⟩
      have hi : σ i = some (.box l) := by rw [ha i (by simp [AV.ids0]), hg]
      obtain ⟨b, h1, h2⟩ := h (hH.obj i _ hi)
      obtain ⟨b', cap, h3, rfl, h4, h5, h6⟩ := hv
      rw [h1] at h3; cases h3
      exact ⟨_, n, cap, rfl, hlen.symm, Nat.le_trans h4 h5, fun _ => ⟨b, off, rfl, h2⟩⟩
    · exact ev.elim
  · exact ev.elim
/-- The cells themselves, one behind the other. -/
theorem collect {size : Nat} {Q : Nat → List Value → Prop} : ∀ (n : Nat), (∀ i, i < n → ∃ es, es.length = size ∧ Q i es) → ∃ news : List Value, news.length = n * size ∧ ∀ i, i < n → ∃ es, es.length = size ∧ Q i es ∧ ∀ j (hj : j < es.length), news[i * size + j]? = some es[j]
  | 0, _ => ⟨[], by simp, fun i hi => absurd hi (by omega)⟩
  | n + 1, h => by
    obtain ⟨news, h1, h2⟩ := collect n fun i hi => h i (by omega)
    obtain ⟨es, h3, h4⟩ := h n (by omega)
    refine ⟨news ++ es, by simp [h1, h3, Nat.add_mul], fun i hi => ?_⟩
    by_cases e : i = n
    · subst e
      exact ⟨es, h3, h4, fun j hj => by rw [List.getElem?_append_right (by omega), h1, Nat.add_sub_cancel_left]; exact List.getElem?_eq_getElem hj⟩
    · obtain ⟨es', h5, h6, h7⟩ := h2 i (by omega)
      refine ⟨es', h5, h6, fun j hj => ?_⟩
      have : (i + 1) * size ≤ n * size := Nat.mul_le_mul_right _ (by omega)
      rw [Nat.add_mul] at this
      rw [List.getElem?_append_left (by omega)]; exact h7 j hj
theorem RC_oneCell {I : Nat → Prop} {w : World} (t : Ty) (x : t.den) (cs : List Value) (h : RC I w t x cs) : ∀ v ∈ cs, v.oneCell' = true :=
  RVL0_oneCell (m := ⟨fun _ => none, fun _ => 0, fun _ => 0, fun _ => 0, fun _ => False⟩) (RC_cells t x cs h)
theorem src_cells {I : Nat → Prop} {w : World} {t : Ty} {x : List t.den} {f : Nat → Option Value} (h : EA I w t x f) : ∃ news : List Value, news.length = x.length * t.size ∧ (∀ k (hk : k < news.length), f k = some news[k]) ∧ (∀ v ∈ news, v.oneCell' = true) ∧ EA I w t x fun k => news[k]? := by
  obtain ⟨news, h1, h2⟩ := collect (size := t.size) (Q := fun i es => ∃ hi : i < x.length, RC I w t x[i] es ∧ ∀ j (hj : j < es.length), f (i * t.size + j) = some es[j]) x.length fun i hi => by
    obtain ⟨es, h3, h4⟩ := h i hi
    exact ⟨es, RC_length t _ _ h3, hi, h3, h4⟩
  have key : ∀ k (hk : k < news.length), f k = some news[k] ∧ news[k].oneCell' = true := fun k hk => by
    rw [h1] at hk
    have hpos : 0 < t.size := by
      rcases Nat.eq_zero_or_pos t.size with e | e
      · rw [e] at hk; omega
      · exact e
    have hi : k / t.size < x.length := by rw [Nat.div_lt_iff_lt_mul hpos]; exact hk
    obtain ⟨es, h5, ⟨_, h6, h7⟩, h8⟩ := h2 _ hi
    have hj : k % t.size < es.length := by rw [h5]; exact Nat.mod_lt _ hpos
    have e : k / t.size * t.size + k % t.size = k := by rw [Nat.mul_comm]; exact Nat.div_add_mod k t.size
    have h9 := h7 _ hj
    have h10 := h8 _ hj
    rw [e] at h9 h10
    have h11 : news[k] = es[k % t.size] := by
      have := List.getElem?_eq_getElem (l := news) (i := k) (by omega)
      rw [this] at h10; exact Option.some.inj h10
    rw [h11]
    exact ⟨h9, RC_oneCell t _ _ h6 _ (List.getElem_mem hj)⟩
  refine ⟨news, h1, fun k hk => (key k hk).1, fun v hv => ?_, fun i hi => ?_⟩
  · obtain ⟨k, hk, rfl⟩ := List.mem_iff_getElem.1 hv
    exact (key k hk).2
  · obtain ⟨es, h5, ⟨_, h6, h7⟩, h8⟩ := h2 i hi
    exact ⟨es, h6, h8⟩
end Go.Eng
