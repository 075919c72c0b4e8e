/- Operations that write. No condition. -/
import Derived.Test.YtoejpijobbcooaaDoorEOps5
namespace Go.Eng
set_option linter.unusedVariables false
set_option linter.unusedSimpArgs false
open Go.RowKit
/-- As MOK, of memories of which more is known. -/
def MOKx (X : (Nat → Prop) → World → M → Act → Prop) (P : Program) (o : Oper) (L : List Opd) (fr : Frame) (F : List Nat) (wr : Bool) (st : Store) (nx : Nat) (K : AV → Store → Nat → Prop) : Prop :=
  ∃ v st1 nx' T, nx ≤ nx' ∧ K v st1 nx' ∧ (∀ i, i ∉ T → st1.get i = st.get i) ∧ (∀ i ∈ T, (wr = true ∧ i ∈ F ∧ st.get i ≠ none) ∨ (nx ≤ i ∧ i < nx')) ∧
    ∀ {X0 : Bool → Nat → Prop} {I0 : Nat → Prop} {w0 : World} {σ : Sto} {I : Nat → Prop} {w : World} {m : M} {a : Act}, X I w m a → FOn L fr I w m a → HS X0 I0 w0 σ I w m → (∀ i ∈ F, σ i = st.get i) → (∀ i, nx ≤ i → i < nx' → ¬ m.used i) →
      OpRun P o a w (Good X0 I0 w0 I w m (upd σ T st1) v nx nx')
section ops
variable {P : Program} {Γ : Env} {o : Oper} {L : List Opd} {fr : Frame} {F : List Nat} {wr : Bool} {st : Store} {nx : Nat} {K : AV → Store → Nat → Prop} {X : (Nat → Prop) → World → M → Act → Prop}
theorem mok_of (h : MOKx (fun _ _ _ _ => True) P o L fr F wr st nx K) : MOK P o L fr F wr st nx K := by
  obtain ⟨v, st1, nx', T, h1, h2, h3, h4, h5⟩ := h
  exact ⟨v, st1, nx', T, h1, h2, h3, h4, fun hf hs ha hN => h5 trivial hf hs ha hN⟩
theorem FOn.evo {L : List Opd} {I I' : Nat → Prop} {w w' : World} {m m' : M} {a : Act} (h : FOn L fr I w m a) (e : Evo I w m I' w' m') : FOn L fr I' w' m' a := fun i hi => e.rv (h i hi)
/-- Behind a step in which some rows are held to be read only. -/
theorem mok_ghost {st1 : Store} {T1 : List Nat} (g1 : ∀ i, i ∉ T1 → st1.get i = st.get i) (g2 : ∀ i ∈ T1, i ∈ F ∧ st.get i ≠ none)
    (hg : ∀ {X0 : Bool → Nat → Prop} {I0 : Nat → Prop} {w0 : World} {σ : Sto} {I : Nat → Prop} {w : World} {m : M} {a : Act}, FOn L fr I w m a → HS X0 I0 w0 σ I w m → (∀ i ∈ F, σ i = st.get i) → ∃ I', HS X0 I0 w0 (upd σ T1 st1) I' w m ∧ Evo I w m I' w m ∧ X I' w m a)
    (h : MOKx X P o L fr F true st1 nx K) : MOK P o L fr F true st nx K := by
  obtain ⟨v, st2, nx', T, h1, h2, h3, h4, h5⟩ := h
  refine ⟨v, st2, nx', T1 ++ T, h1, h2, fun i hi => ?_, fun i hi => ?_, fun {X0 I0 w0 σ I w m a} hf hs ha hN => ?_⟩
  · simp only [List.mem_append, not_or] at hi; rw [h3 i hi.2, g1 i hi.1]
  · rcases List.mem_append.1 hi with h | h
    · exact .inl ⟨rfl, g2 i h⟩
    · rcases h4 i h with ⟨k1, k2, k3⟩ | h
      · refine .inl ⟨k1, k2, ?_⟩
        by_cases h1 : i ∈ T1
        · exact (g2 i h1).2
        · rw [← g1 i h1]; exact k3
      · exact .inr h
  · obtain ⟨I', k1, k2, k3⟩ := hg hf hs ha
    intro N Q k
    refine h5 k3 (hf.evo k2) k1 (upd_agree g1 ha) hN N Q fun cv I'' w' m' hgood => k cv I'' w' m' ?_
    obtain ⟨q1, q2, q3, q4⟩ := hgood
    rw [upd_upd h3] at q2
    exact ⟨q1, q2, k2.trans q3, q4⟩
/-- One thing is written. -/
theorem mok_write {v : AV} {i : Nat} {ob ob' : Obj} (hi : st.get i = some ob) (hm : ob.mut = true) (hm' : ob'.mut = true) (hF : i ∈ F) (hwr : wr = true) (hK : K v (st.set i ob') nx)
    (h : ∀ {I : Nat → Prop} {w : World} {m : M} {a : Act} {σ : Sto}, X I w m a → FOn L fr I w m a → HRel I w m σ → (∀ i ∈ F, σ i = st.get i) → ∃ cv w', ((execOp a.eval o).run P w = .ok (.value cv) w' ∨ ((execOp a.eval o).run P w = .ok .skip w' ∧ cv = undef)) ∧
      Fr (fun b => m.blk i = some b) w w' ∧ (Same I w w' → ObjOk I w' m i ob') ∧ (Same I w w' → RV I w' m v cv)) : MOKx X P o L fr F wr st nx K := by
  refine ⟨v, st.set i ob', nx, [i], Nat.le_refl _, hK, fun j hj => by rw [Store.get_set, if_neg (by simpa using hj)], fun j hj => .inl (by simp only [List.mem_singleton] at hj; subst hj; exact ⟨hwr, hF, by rw [hi]; intro h; cases h⟩), fun {X0 I0 w0 σ I w m a} hX hf hs ha _ => ?_⟩
  obtain ⟨cv, w', hr, hfr, ho, hv⟩ := h hX hf hs.H ha
  have hσ : σ i = some ob := by rw [ha i hF, hi]
  have hml : ∀ {o : Obj}, o.mut = true → o.live = true := fun {o} h => by cases o <;> first | rfl | cases h
  have hsame : Same I w w' := fun b hb => hfr.block b (hs.H.Ilt b hb) fun e => hs.H.notI i ob b hσ hm e hb
  have hE : Evo I w m I w' m := ⟨fun _ h => h, hsame, m.le_refl⟩
  have hget : ∀ j, upd σ [i] (st.set i ob') j = if j = i then some ob' else σ j := fun j => by
    unfold upd
    simp only [List.mem_singleton, Store.get_set]
    split <;> rfl
  have good : Good X0 I0 w0 I w m (upd σ [i] (st.set i ob')) v nx nx cv I w' m := by
    refine ⟨hv hsame, hs.step hE (fun j => j = i) (fun j hj => by rw [hget, if_neg hj]) (hfr.weak fun b hb => ⟨i, ob, rfl, hσ, hm, hb⟩) (fun b h => .inl h) (fun b h => Nat.lt_of_lt_of_le (hs.H.Ilt b h) hfr.size)
      (fun j o' hj e => ?_) (fun j o' b hj e hl hb => ?_) (fun j k o' o'' b hj hk _ _ _ _ _ _ => hj.trans hk.symm) (fun j o' b hj e hm2 hb => ?_) (fun j t x b hj e hb => ?_), hE, fun _ h => .inl h⟩
    · subst hj; rw [hget, if_pos rfl] at e; cases e
      exact ⟨hs.H.lt j (by rw [hσ]; intro h; cases h), ho hsame⟩
    · subst hj; exact .inr ⟨j, ob, rfl, hσ, hml hm, fun _ => hm, hb⟩
    · subst hj; exact hs.H.notI j ob b hσ hm hb
    · subst hj; rw [hget, if_pos rfl] at e; cases e; cases hm'
  rcases hr with hr | ⟨hr, rfl⟩
  · exact run_val hr good
  · exact run_skip hr good
theorem sizes {t : Ty} {x : t.den} {I : Nat → Prop} {w : World} {cs : List Value} (h : RC I w t x cs) : cs.length = t.size := RC_length t x cs h
theorem cells_length : ∀ (t : Ty) (x : t.den), (t.cells x).length = t.size
  | .int _, _ => rfl
  | .bool, _ => rfl
  | .str, _ => rfl
  | .nil, _ => rfl
  | .cons a b, x => by simp [Ty.cells, Ty.size, cells_length a, cells_length b]
  | .sl _, _ => rfl
theorem frzL0_length : ∀ {l : List AV} {st : Store} {K : List AV → Store → Prop} {l' : List AV} {st' : Store}, frzL0 st l K → True := fun _ => trivial
theorem seg_get (cs vs : List Value) (off : Nat) (h : off + vs.length ≤ cs.length) (k : Nat) : (cs.take off ++ vs ++ cs.drop (off + vs.length))[k]? = if k < off then cs[k]? else if k < off + vs.length then vs[k - off]? else cs[k]? := by
  have hl : (cs.take off).length = off := by simp; omega
  by_cases h1 : k < off
  · rw [if_pos h1, List.append_assoc, List.getElem?_append_left (by omega), List.getElem?_take, if_pos h1]
  · rw [if_neg h1]
    by_cases h2 : k < off + vs.length
    · rw [if_pos h2, List.append_assoc, List.getElem?_append_right (by omega), hl, List.getElem?_append_left (by omega)]
    · rw [if_neg h2, List.getElem?_append_right (by simp; omega), List.getElem?_drop]
      congr 1; simp; omega
theorem seg_size (cs : Array Value) (vs : List Value) (off : Nat) (h : off + vs.length ≤ cs.size) : ((cs.toList.take (off + 0) ++ vs ++ cs.toList.drop (off + 0 + vs.length)).toArray).size = cs.size := by
  simp only [List.size_toArray, List.length_append, List.length_take, List.length_drop, Array.length_toList]; omega
/-- What a store looks at: a box alone, or all that is named. -/
def storeFoot (x y : Opd) (fr : Frame) : List Nat := match x.ev fr with | .ptr _ _ => footL [x] fr | _ => footL [x, y] fr
theorem store_mok {n : Nat} {x' y' : Opd} (hok : opOk P o.op (.store n x' y') = true) (ev : evOp Γ (.store n x' y') fr st nx K) : MOK P o [x', y'] fr (storeFoot x' y' fr) true st nx K := by
  simp only [evOp, forceL0_eq, Store.setK_eq] at ev
  simp only [opOk] at hok
  split at hok
  · rename_i t x y ho
    simp only [Bool.and_eq_true] at hok
    obtain ⟨⟨hs1, hx⟩, hy⟩ := hok
    obtain ⟨ti, hti, hn⟩ := sizeIs_of hs1
    have hex : ∀ (a : Act), execOp a.eval o = (do Instr.storeAt t (a.eval x) (a.eval y); pure .skip) := fun a => by unfold execOp; rw [ho]
    split at ev
    · -- a box
      rename_i i off c hb hc
      rw [show storeFoot x' y' fr = footL [x'] fr by unfold storeFoot; rw [hb]]
      split at ev
      · rename_i l hl
        split at ev
        · rename_i hd
          simp only [Bool.and_eq_true] at hd
          obtain ⟨hcn, hoff⟩ := hd
          have hcn := Nat.eq_of_beq_eq_true hcn
          have hoff := Nat.le_of_ble_eq_true hoff
          refine mok_of (mok_write (ob := .box l) (ob' := .box (put l off c)) hl rfl rfl (foot_mem (List.mem_singleton.2 rfl : x' ∈ [x']) hb i (by simp [AV.ids, AV.ids1, AV.ids0])) rfl ev fun {I w m a σ} _ hf hH ha => ?_)
          have hv := hf.rv mem2a hx; rw [hb] at hv
          have hu := RVL0_flat (hf.rv mem2b hy) hc
          have hi : σ i = some (.box l) := by rw [ha i (foot_mem (List.mem_singleton.2 rfl : x' ∈ [x']) hb i (by simp [AV.ids, AV.ids1, AV.ids0])), hl]
          obtain ⟨b, cs, T, fz, h1, h2, hz, h3⟩ := hH.obj i _ hi
          obtain ⟨b', h4, h5, _⟩ := hv
          rw [h1] at h4; cases h4
          have hlen := RVL0_length h3
          have hlc := RVL0_length hu
          have hcs : cs.toList.length = cs.size := Array.length_toList
          obtain ⟨w', r1, r2, r3, r4, r5, r6, r7⟩ := storeCells_run (P := P) (a.eval y).cells.toList 0 off w cs h2 hz (by omega) (RVL0_oneCell hu)
          have hrun : (Instr.storeAt t (a.eval x) (a.eval y)).run P w = .ok () w' := by
            have hsz : (a.eval y).cells.size = ti.size := by rw [hn, ← hcn, hlc]; simp
            simp [Instr.storeAt, h5, Instr.sureAddr, storeVar, run_size hti, hsz, r1]
          refine ⟨undef, w', .inr ⟨exec_u (hex a) hrun, rfl⟩, ⟨r5, r6, r7, by omega, fun k _ hk => r4 k (fun e => hk (by rw [e]; exact h1))⟩, fun hs => ⟨b, _, T, fz, h1, r2, ?_, ?_⟩, fun _ => trivial⟩
          · rw [seg_size _ _ _ (by omega)]; exact hz
          · have := RVL0_put off h3 hu (by omega)
            simp only [Nat.add_zero]
            exact RVL0_mono (fun _ h => h) hs m.le_refl _ _ this
        · exact ev.elim
      · exact ev.elim
    · -- an element of a row
      rename_i j i off c hb hc
      rw [show storeFoot x' y' fr = footL [x', y'] fr by unfold storeFoot; rw [hb]]
      obtain ⟨c', st1, T1, ev1, ⟨g1, g2⟩, hg⟩ := frzL0_sound ev
      split at ev1
      · rename_i ty yl hl
        split at ev1
        · rename_i hd
          simp only [Bool.and_eq_true] at hd
          obtain ⟨hcn, hoff⟩ := hd
          have hcn := Nat.eq_of_beq_eq_true hcn
          have hoff := Nat.le_of_ble_eq_true hoff
          obtain ⟨hi, ev2⟩ := need_both ev1
          split at ev2
          · rename_i z hz
            have hjF : j ∈ footL [x', y'] fr := foot_mem mem2a hb j (by simp [AV.ids, AV.ids1, AV.ids0])
            have hids : ∀ i ∈ idsL0 c, i ∈ footL [x', y'] fr := fun i hi => foot_mem mem2b rfl i (flat_ids hc i hi)
            refine mok_ghost (X := fun I w m a => RVL0 I w m c' (a.eval y).cells.toList) g1 (fun i hi => ⟨hids i (g2 i hi).1, (g2 i hi).2⟩) (fun {X0 I0 w0 σ I w m a} hf hs ha => ?_) (mok_write (ob := .row false ty yl) (ob' := .row false ty (yl.set i z)) hl rfl rfl hjF rfl ev2 fun {I w m a σ} hX hf hH ha => ?_)
            · obtain ⟨I', k1, k2, k3⟩ := hg hs fun i hi => ha i (hids i hi)
              exact ⟨I', k1, k2, k3 _ (RVL0_flat (hf.rv mem2b hy) hc)⟩
            · have hv := hf.rv mem2a hx; rw [hb] at hv
              have hj : σ j = some (.row false ty yl) := by rw [ha j hjF, hl]
              obtain ⟨q1, q2, q3, q4, q5⟩ := hH.obj j _ hj
              obtain ⟨b', h4, h5, _⟩ := hv
              rcases q5 with ⟨q5, _⟩ | ⟨b, cs, T, fz, q5, q6, q7, q8, q9⟩
              · rw [q5] at h4; cases h4
              · have e := Option.some.inj (q5.symm.trans h4)
                subst e
                have q9 : EA I w ty yl fun k => cs[k]? := q9
                have hlc := RVL0_length hX
                have hvs : (a.eval y).cells.toList.length = n := by omega
                have hcs : cs.toList.length = cs.size := Array.length_toList
                have hsz1 : (i + 1) * ty.size ≤ cs.size := by rw [q8]; exact Nat.mul_le_mul_right _ (by omega)
                have hfit : i * ty.size + off + (a.eval y).cells.toList.length ≤ cs.size := by rw [Nat.add_mul] at hsz1; omega
                obtain ⟨w', r1, r2, r3, r4, r5, r6, r7⟩ := storeCells_run (P := P) (a.eval y).cells.toList 0 (i * ty.size + off) w cs q6 q7 (by omega) (RVL0_oneCell hX)
                have hrun : (Instr.storeAt t (a.eval x) (a.eval y)).run P w = .ok () w' := by
                  have hsz : (a.eval y).cells.size = ti.size := by rw [hn, ← hvs]; simp
                  simp [Instr.storeAt, h5, Instr.sureAddr, storeVar, run_size hti, hsz, q1, r1]
                have hsize := seg_size cs (a.eval y).cells.toList (i * ty.size + off) hfit
                have hget : ∀ k, ((cs.toList.take (i * ty.size + off + 0) ++ (a.eval y).cells.toList ++ cs.toList.drop (i * ty.size + off + 0 + (a.eval y).cells.toList.length)).toArray)[k]? = if k < i * ty.size + off then cs[k]? else if k < i * ty.size + off + (a.eval y).cells.toList.length then (a.eval y).cells.toList[k - (i * ty.size + off)]? else cs[k]? := fun k => by
                  rw [List.getElem?_toArray, Nat.add_zero, seg_get _ _ _ (by omega)]
                  simp only [Array.getElem?_toList]
                refine ⟨undef, w', .inr ⟨exec_u (hex a) hrun, rfl⟩, ⟨r5, r6, r7, by omega, fun k _ hk => r4 k (fun e => hk (by rw [e]; exact q5))⟩, fun hs => ⟨q1, by simpa using q2, by simpa using q3, q4, .inr ⟨b, _, T, fz, q5, r2, by rw [hsize]; exact q7, by rw [hsize]; exact q8, ?_⟩⟩, fun _ => trivial⟩
                obtain ⟨es, e1, e2'⟩ := q9 i hi
                have e2 : ∀ k (hk : k < es.length), cs[i * ty.size + k]? = some es[k] := e2'
                have hel := RC_length ty _ _ e1
                have hgetD : yl.getD i ty.dflt = yl[i] := by simp [hi]
                rw [hgetD] at hz
                have hput := RVL0_put off (RC_cells (m := m) ty _ _ e1) hX (by rw [cells_length]; omega)
                have hRC := ofCells_one hput hz
                have hel' := RC_length ty _ _ hRC
                refine EA.set (EA.mono (fun _ h => h) hs q9) (RC_mono (fun _ h => h) hs ty _ _ hRC) hi (fun k hk => ?_) (fun k hk hout => ?_)
                · rw [hel'] at hk
                  show ((cs.toList.take (i * ty.size + off + 0) ++ (a.eval y).cells.toList ++ cs.toList.drop (i * ty.size + off + 0 + (a.eval y).cells.toList.length)).toArray)[i * ty.size + k]? = _
                  rw [hget, ← List.getElem?_eq_getElem (by omega), seg_get es _ off (by omega) k]
                  by_cases h1 : k < off
                  · rw [if_pos h1, if_pos (by omega), e2 k (by omega), List.getElem?_eq_getElem (by omega)]
                  · rw [if_neg h1, if_neg (by omega)]
                    by_cases h2 : k < off + (a.eval y).cells.toList.length
                    · rw [if_pos h2, if_pos (by omega)]; congr 1; omega
                    · rw [if_neg h2, if_neg (by omega), e2 k (by omega), List.getElem?_eq_getElem (by omega)]
                · show ((cs.toList.take (i * ty.size + off + 0) ++ (a.eval y).cells.toList ++ cs.toList.drop (i * ty.size + off + 0 + (a.eval y).cells.toList.length)).toArray)[k]? = _
                  rw [hget]
                  rw [Nat.add_mul] at hout
                  by_cases h1 : k < i * ty.size + off
                  · rw [if_pos h1]
                  · rw [if_neg h1, if_neg (by omega)]
          · exact ev2.elim
        · exact ev1.elim
      · exact ev1.elim
    · exact ev.elim
  · cases hok
theorem freeze_mok {x' : Opd} (hok : opOk P o.op (.freeze x') = true) (ev : evOp Γ (.freeze x') fr st nx K) : MOK P o [x'] fr (footL [x'] fr) true st nx K := by
  simp only [evOp] at ev
  simp only [opOk] at hok
  have hop : ∃ x, opdOk x x' = true ∧ ∀ a : Act, execOp a.eval o = (pure (.value (a.eval x)) : Sem Next) := by
    split at hok
    · rename_i x ho; exact ⟨x, hok, fun a => by unfold execOp; rw [ho]⟩
    · rename_i x ho; exact ⟨x, hok, fun a => by unfold execOp; rw [ho]⟩
    · cases hok
  obtain ⟨x, hx, hex⟩ := hop
  obtain ⟨v', st1, T1, hK, ⟨g1, g2⟩, hg⟩ := frz0_sound ev
  have hids : ∀ i ∈ (x'.ev fr).ids0, i ∈ footL [x'] fr := fun i hi => foot_mem mem1 rfl i (by
    generalize x'.ev fr = v at hi
    cases v <;> first | exact hi | simp [AV.ids0] at hi)
  by_cases hsc : isSc (x'.ev fr) = true
  · refine ⟨v', st1, nx, T1, Nat.le_refl _, hK, g1, fun i hi => .inl ⟨rfl, hids i (g2 i hi).1, (g2 i hi).2⟩, fun {X0 I0 w0 σ I w m a} hf hs ha _ => ?_⟩
    obtain ⟨I', k1, k2, k3⟩ := hg hs fun i hi => ha i (hids i hi)
    exact run_val (cv := a.eval x) (w' := w) (by rw [hex]; rfl) ⟨RV_0 (k3 _ (RV_sc (hf.rv mem1 hx) hsc)), k1, k2, fun _ h => .inl h⟩
  · -- nothing to hold
    have e : frz0 st (x'.ev fr) (fun v st => K v st nx) = K (x'.ev fr) st nx := by
      generalize x'.ev fr = v at hsc
      cases v <;> first | rfl | exact absurd rfl hsc
    rw [e] at ev
    refine ⟨_, st, nx, [], Nat.le_refl _, ev, fun _ _ => rfl, fun i hi => (by cases hi), fun {X0 I0 w0 σ I w m a} hf hs ha _ => ?_⟩
    rw [upd_nil]
    exact run_val (cv := a.eval x) (w' := w) (by rw [hex]; rfl) ⟨hf.rv mem1 hx, hs, Evo.refl _ _ _, fun _ h => .inl h⟩
end ops
end Go.Eng
