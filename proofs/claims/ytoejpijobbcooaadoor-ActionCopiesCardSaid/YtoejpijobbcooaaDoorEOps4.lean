/- Operations that read memory, or make something new. No condition. -/
import Derived.Test.YtoejpijobbcooaaDoorEOps3
import Derived.Laws.BytesString
import Derived.Laws.Append
namespace Go.Eng
set_option linter.unusedVariables false
set_option linter.unusedSimpArgs false
open Go.RowKit
section ops
variable {P : Program} {Γ : Env} {o : Oper} {fr : Frame} {F : List Nat} {wr : Bool} {st : Store} {nx : Nat} {K : AV → Store → Nat → Prop}
theorem len_slice {t e : TypeId} {ts : Array TypeId} {ty : TypeId} {b : Option Addr} {n c : Nat} {w : World} (h0 : ts[0]? = some t) (ht : P.underlying t = some (.slice e)) :
    (Builtin.len_ ts ty #[.slice b n c]).run P w = .ok (.int .i64 n) w := by
  simp [Builtin.len_, h0, run_underlying ht, goInt]
theorem len_mok {x' : Opd} (hok : opOk P o.op (.len x') = true) (ev : evOp Γ (.len x') fr st nx K) : MOK P o [x'] fr (footL [x'] fr) wr st nx K := by
  simp only [evOp] at ev
  simp only [opOk] at hok
  split at hok
  · rename_i args ts ho
    simp only [Bool.and_eq_true] at hok
    obtain ⟨h1, h2⟩ := hok
    obtain ⟨x, rfl, hx⟩ := args_one h1
    split at h2
    · rename_i t ht
      obtain ⟨e, he⟩ := isSlice_of h2
      have hex : ∀ (a : Act), execOp a.eval o = (do pure (.value (← Builtin.len_ ts o.type #[a.eval x]))) := fun a => by rw [run_builtin ho]; simp [builtin]
      split at ev
      · rename_i t' l hb
        refine mok_read ev fun {I w m a σ} hf hH ha => ⟨_, hex a, ?_⟩
        have hv := hf.rv mem1 hx; rw [hb] at hv
        obtain ⟨ao, len, cap, e1, h3, h4, h5, _⟩ := hv
        exact ⟨_, mk_int (inK_i64 (by omega)), by rw [e1, h3]; exact len_slice ht he⟩
      · rename_i hb
        refine mok_read ev fun {I w m a σ} hf hH ha => ⟨_, hex a, ?_⟩
        have hv := hf.rv mem1 hx; rw [hb] at hv
        have hv : a.eval x = .slice none 0 0 := hv
        exact ⟨_, mk_int (n := ((0 : Nat) : Int)) (inK_i64 (Nat.zero_le _)), by rw [hv]; exact len_slice ht he⟩
      · rename_i i hb
        split at ev
        · rename_i fz t' l hl
          refine mok_read ev fun {I w m a σ} hf hH ha => ⟨_, hex a, ?_⟩
          have hv := hf.rv mem1 hx; rw [hb] at hv
          have hi : σ i = some (.row fz t' l) := by rw [ha i (foot_mem mem1 hb i (by simp [AV.ids, AV.ids1, AV.ids0])), hl]
          obtain ⟨k1, k2, k3, k4, k5⟩ := row_lies (hH.obj i _ hi)
          obtain ⟨ao, len, cap, e1, h3, h4, h5, h6, h7, _⟩ := hv
          exact ⟨_, mk_int (inK_i64 (by omega)), by rw [e1, show len = l.length by omega]; exact len_slice ht he⟩
        · exact ev.elim
      · rename_i i off n hb
        refine mok_read ev fun {I w m a σ} hf hH ha => ⟨_, hex a, ?_⟩
        have hv := hf.rv mem1 hx; rw [hb] at hv
        obtain ⟨ao, len, cap, e1, h3, h4, h5, h6, h7, _⟩ := hv
        exact ⟨_, mk_int (inK_i64 (by omega)), by rw [e1, h4]; exact len_slice ht he⟩
      · exact ev.elim
    · cases h2
  · cases hok
theorem indexSl_run {t e : TypeId} {i : TypeInfo} {b ofs len cap : Nat} {k : IntKind} {n : Int} {w : World} (h1 : P.underlying t = some (.slice e)) (h2 : P.info? e = some i) (h0 : 0 ≤ n) (hlt : n < (len : Int)) :
    (Instr.indexAt t (.slice (some ⟨b, ofs, none⟩) len cap) (.int k n)).run P w = .ok (.pointer (some ⟨b, ofs + n.toNat * i.size, none⟩)) w := by
  simp [Instr.indexAt, asIntOf, run_underlying h1, h0, hlt, run_size h2, addr_add]
theorem indexSl_mok {size : Nat} {x' y' : Opd} (hok : opOk P o.op (.indexSl size x' y') = true) (ev : evOp Γ (.indexSl size x' y') fr st nx K) : MOK P o [x', y'] fr (footL [x', y'] fr) wr st nx K := by
  simp only [evOp] at ev
  simp only [opOk] at hok
  split at hok
  · rename_i t x y ho
    simp only [Bool.and_eq_true] at hok
    obtain ⟨⟨hx, hy⟩, h3⟩ := hok
    split at h3
    · rename_i e he
      have he := slElem_of he
      obtain ⟨i, hi, hn⟩ := sizeIs_of h3
      have hex : ∀ (a : Act), execOp a.eval o = (do pure (.value (← Instr.indexAt t (a.eval x) (a.eval y)))) := fun a => by unfold execOp; rw [ho]
      split at ev
      · rename_i t' l k n hb' hb
        split at ev
        · rename_i hsz
          have hsz := Nat.eq_of_beq_eq_true hsz
          obtain ⟨⟨h0, hlt⟩, hK⟩ := need_both ev
          refine mok_read hK fun {I w m a σ} hf hH ha => ⟨_, hex a, ?_⟩
          have hv := hf.rv mem2a hx; rw [hb'] at hv
          have hu := hf.rv mem2b hy; rw [hb] at hu
          obtain ⟨ao, len, cap, e1, h4, h5, h6, h7⟩ := hv
          obtain ⟨b, ofs, rfl, hbI, h8⟩ := h7 (by omega)
          refine ⟨.pointer (some ⟨b, ofs + n.toNat * t'.size + 0, none⟩), ⟨b, ofs, rfl, hbI, by omega, h8⟩, ?_⟩
          rw [e1, (rv_int hu).1, indexSl_run he hi h0 (by omega), hn, hsz]; rfl
        · exact ev.elim
      · rename_i j k n hb' hb
        split at ev
        · rename_i fz t' l hl
          split at ev
          · rename_i hsz
            have hsz := Nat.eq_of_beq_eq_true hsz
            obtain ⟨⟨h0, hlt⟩, hK⟩ := need_both ev
            refine mok_read hK fun {I w m a σ} hf hH ha => ⟨_, hex a, ?_⟩
            have hv := hf.rv mem2a hx; rw [hb'] at hv
            have hu := hf.rv mem2b hy; rw [hb] at hu
            have hj : σ j = some (.row fz t' l) := by rw [ha j (foot_mem mem2a hb' j (by simp [AV.ids, AV.ids1, AV.ids0])), hl]
            obtain ⟨k1, k2, k3, k4, k5⟩ := row_lies (hH.obj j _ hj)
            obtain ⟨ao, len, cap, e1, h3, h4, h5, h6, h7, h8⟩ := hv
            rcases h8 with ⟨_, _, h8⟩ | ⟨b, h8, rfl⟩
            · omega
            · refine ⟨.pointer (some ⟨b, n.toNat * m.sz j + 0, none⟩), ⟨b, h8, rfl, h3⟩, ?_⟩
              rw [e1, (rv_int hu).1, indexSl_run he hi h0 (by omega), hn, ← hsz, k1]; simp
          · exact ev.elim
        · exact ev.elim
      · rename_i j off q k n hb' hb
        split at ev
        · rename_i fz t' l hl
          split at ev
          · rename_i hsz
            have hsz := Nat.eq_of_beq_eq_true hsz
            obtain ⟨⟨h0, hlt⟩, hK⟩ := need_both ev
            refine mok_read hK fun {I w m a σ} hf hH ha => ⟨_, hex a, ?_⟩
            have hv := hf.rv mem2a hx; rw [hb'] at hv
            have hu := hf.rv mem2b hy; rw [hb] at hu
            have hj : σ j = some (.row fz t' l) := by rw [ha j (foot_mem mem2a hb' j (by simp [AV.ids, AV.ids1, AV.ids0])), hl]
            obtain ⟨k1, k2, k3, k4, k5⟩ := row_lies (hH.obj j _ hj)
            obtain ⟨ao, len, cap, e1, h3, h4, h5, h6, h7, h8⟩ := hv
            rcases h8 with ⟨_, _, h8⟩ | ⟨b, ofs, h8, rfl, h9⟩
            · omega
            · refine ⟨.pointer (some ⟨b, (off + n.toNat) * m.sz j + 0, none⟩), ⟨b, h8, rfl, h3⟩, ?_⟩
              rw [e1, (rv_int hu).1, indexSl_run he hi h0 (by omega), hn, ← hsz, h9 (by omega), k1, Nat.add_mul]; simp
          · exact ev.elim
        · exact ev.elim
      · exact ev.elim
    · cases h3
  · cases hok
/-- A load, by the cells that lie there. -/
theorem loadCellsFrom_run {w : World} {b off : Nat} : ∀ (vs : List Value) (i : Nat) (acc : Array Value),
    (∀ j (h : j < vs.length), w.cell? ⟨b, off + i + j, none⟩ = some vs[j]) → (loadCellsFrom ⟨b, off, none⟩ i vs.length acc).run P w = .ok (acc ++ vs.toArray) w
  | [], _, acc, _ => by simp [loadCellsFrom]
  | v :: vs, i, acc, h => by
    have ha := addr_add b off i
    have h0 := h 0 (by simp)
    simp only [Nat.add_zero, List.getElem_cons_zero] at h0
    simp only [List.length_cons, loadCellsFrom, Sem.run_bind, ha, run_load, h0, Result.andThen_ok]
    rw [loadCellsFrom_run vs (i + 1) (acc.push v) fun j hj => by
      have := h (j + 1) (by simp; omega)
      simp only [List.getElem_cons_succ] at this
      rw [← this]; congr 2; omega]
    simp
theorem load_sound {n : Option Nat} {off : Nat} {l : List AV} {K' : AV → Prop} (ev : cut n off l K') :
    ∃ v, K' v ∧ ∀ {P : Program} {I : Nat → Prop} {w : World} {m : M} {t : TypeId} {R : List Value} {b base : Nat}, nOk P t n = true → RVL0 I w m l R → (∀ j (h : j < R.length), w.cell? ⟨b, base + j, none⟩ = some R[j]) →
      ∃ cv, RV I w m v cv ∧ (Instr.loadAt t (.pointer (some ⟨b, base + off, none⟩))).run P w = .ok cv w := by
  rcases cut_some ev with ⟨rfl, v, t, hd, hK⟩ | ⟨k, rfl, hle, hK⟩
  · refine ⟨v, hK, fun {P I w m t R b base} hn hR hc => ?_⟩
    obtain ⟨d, i, hd', hi, h⟩ := nOk_cases hn
    rcases h with ⟨_, h⟩ | ⟨hb, _, hs⟩
    · cases h
    · obtain ⟨cv, h1, h2⟩ := RVL0_get hR hd
      have hoff : off < R.length := by
        rcases Nat.lt_or_ge off R.length with h | h
        · exact h
        · rw [List.getElem?_eq_none h] at h1; cases h1
      have hcell : w.cell? ⟨b, base + off, none⟩ = some cv := by
        rw [hc off hoff]; rw [List.getElem?_eq_getElem hoff] at h1; exact h1
      exact ⟨cv, RV_0 h2, by simp [Instr.loadAt, Instr.sureAddr, loadVar, run_isAgg hd', hb, run_load, hcell]⟩
  · refine ⟨_, hK, fun {P I w m t R b base} hn hR hc => ?_⟩
    obtain ⟨d, i, hd', hi, h⟩ := nOk_cases hn
    rcases h with ⟨hb, h⟩ | ⟨_, h, _⟩
    · cases h
      have hlR := RVL0_length hR
      have hl : ((R.drop off).take i.size).length = i.size := by simp; omega
      have hrun := loadCellsFrom_run (P := P) (w := w) (b := b) (off := base + off) ((R.drop off).take i.size) 0 #[] (fun j hj => by
        rw [hl] at hj
        rw [show base + off + 0 + j = base + (off + j) by omega, hc (off + j) (by omega)]
        simp)
      rw [hl] at hrun
      refine ⟨.agg ((R.drop off).take i.size).toArray, ⟨_, rfl, by simpa using RVL0_take _ (RVL0_drop off hR)⟩, ?_⟩
      simp [Instr.loadAt, Instr.sureAddr, loadVar, run_isAgg hd', hb, run_size hi, loadCells, hrun]
    · cases h
theorem load_mok {n : Option Nat} {x' : Opd} (hok : opOk P o.op (.load n x') = true) (ev : evOp Γ (.load n x') fr st nx K) : MOK P o [x'] fr (footL [x'] fr) wr st nx K := by
  simp only [evOp] at ev
  simp only [opOk] at hok
  split at hok
  · rename_i t x ho
    simp only [Bool.and_eq_true] at hok
    obtain ⟨hn, hx⟩ := hok
    have hex : ∀ (a : Act), execOp a.eval o = (do pure (.value (← Instr.loadAt t (a.eval x)))) := fun a => by unfold execOp; rw [ho]
    split at ev
    · rename_i i off hb
      split at ev
      · rename_i l hl
        obtain ⟨v, hK, h⟩ := load_sound ev
        refine mok_read hK fun {I w m a σ} hf hH ha => ⟨_, hex a, ?_⟩
        have hv := hf.rv mem1 hx; rw [hb] at hv
        have hi : σ i = some (.box l) := by rw [ha i (foot_mem mem1 hb i (by simp [AV.ids, AV.ids1, AV.ids0])), hl]
        obtain ⟨b, cs, T, fz, h1, h2, _, h3⟩ := hH.obj i _ hi
        obtain ⟨b', h4, h5, _⟩ := hv
        rw [h1] at h4; cases h4
        obtain ⟨cv, h6, h7⟩ := h (base := 0) hn h3 (cells_of h2)
        rw [Nat.zero_add] at h7
        exact ⟨cv, h6, by rw [h5]; exact h7⟩
      · exact ev.elim
    · rename_i t' y i off hb
      obtain ⟨v, hK, h⟩ := load_sound ev
      refine mok_read hK fun {I w m a σ} hf hH ha => ⟨_, hex a, ?_⟩
      have hv := hf.rv mem1 hx; rw [hb] at hv
      obtain ⟨b, ofs, e1, hbI, hi, h1⟩ := hv
      obtain ⟨es, h2, h3⟩ := h1 i hi
      have hget : y.getD i t'.dflt = y[i] := by simp [hi]
      rw [hget] at h
      obtain ⟨cv, h6, h7⟩ := h (base := ofs + i * t'.size) (m := m) hn (RC_cells t' _ _ h2) h3
      exact ⟨cv, h6, by rw [e1]; exact h7⟩
    · rename_i j i off hb
      split at ev
      · rename_i fz t' y hl
        obtain ⟨hlt, ev⟩ := need_both ev
        obtain ⟨v, hK, h⟩ := load_sound ev
        refine mok_read hK fun {I w m a σ} hf hH ha => ⟨_, hex a, ?_⟩
        have hv := hf.rv mem1 hx; rw [hb] at hv
        have hj : σ j = some (.row fz t' y) := by rw [ha j (foot_mem mem1 hb j (by simp [AV.ids, AV.ids1, AV.ids0])), hl]
        obtain ⟨k1, k2, k3, k4, k5⟩ := row_lies (hH.obj j _ hj)
        obtain ⟨b', h4, h5, _⟩ := hv
        rcases k5 with ⟨k5, _⟩ | ⟨b, k5, k6⟩
        · rw [k5] at h4; cases h4
        · rw [k5] at h4; cases h4
          obtain ⟨es, h6, h7⟩ := k6 i hlt
          have hget : y.getD i t'.dflt = y[i] := by simp [hlt]
          rw [hget] at h
          obtain ⟨cv, h8, h9⟩ := h (base := i * t'.size) (m := m) hn (RC_cells t' _ _ h6) h7
          exact ⟨cv, h8, by rw [h5, k1]; exact h9⟩
      · exact ev.elim
    · exact ev.elim
  · cases hok
theorem loadI_mok {k : IntKind} {x' : Opd} (hok : opOk P o.op (.loadI k x') = true) (ev : evOp Γ (.loadI k x') fr st nx K) : MOK P o [x'] fr (footL [x'] fr) wr st nx K := by
  simp only [evOp] at ev
  simp only [opOk] at hok
  split at hok
  · rename_i t x ho
    simp only [Bool.and_eq_true] at hok
    obtain ⟨hn, hx⟩ := hok
    split at ev
    · rename_i i off hb
      split at ev
      · rename_i l hl
        obtain ⟨hoff, hK⟩ := need_both ev
        obtain ⟨ns, hK, h⟩ := intsK_sound hK
        refine mok_read hK fun {I w m a σ} hf hH ha => ⟨Instr.loadAt t (a.eval x), by unfold execOp; rw [ho], ?_⟩
        have hv := hf.rv mem1 hx; rw [hb] at hv
        have hi : σ i = some (.box l) := by rw [ha i (foot_mem mem1 hb i (by simp [AV.ids, AV.ids1, AV.ids0])), hl]
        obtain ⟨b, cs, T, fz, h1, h2, _, h3⟩ := hH.obj i _ hi
        obtain ⟨b', h4, h5, _⟩ := hv
        rw [h1] at h4; cases h4
        obtain ⟨d, ti, hd, hti, hh⟩ := nOk_cases hn
        rcases hh with ⟨_, hh⟩ | ⟨hb', _, _⟩
        · cases hh
        · obtain ⟨h8, h9⟩ := h h3
          have hlen := RVL0_length h3
          have hn' : off < ns.length := by
            have : cs.toList.length = ns.length := by rw [h8]; simp
            omega
          have hg : ns.getD off 0 = ns[off] := by simp [hn']
          have hcell : w.cell? ⟨b, off, none⟩ = some (.int k ns[off]) := by
            have := cells_of h2 off (by omega)
            rw [Nat.zero_add] at this
            rw [this]; simp only [h8, List.getElem_map]
          rw [hg]
          exact ⟨_, mk_int (h9 _ (List.getElem_mem hn')), by simp [Instr.loadAt, h5, Instr.sureAddr, loadVar, run_isAgg hd, hb', run_load, hcell]⟩
      · exact ev.elim
    · exact ev.elim
  · cases hok
theorem loadS_mok {x' : Opd} (hok : opOk P o.op (.loadS x') = true) (ev : evOp Γ (.loadS x') fr st nx K) : MOK P o [x'] fr (footL [x'] fr) wr st nx K := by
  simp only [evOp] at ev
  simp only [opOk] at hok
  split at hok
  · rename_i t x ho
    simp only [Bool.and_eq_true] at hok
    obtain ⟨hn, hx⟩ := hok
    split at ev
    · rename_i i off hb
      split at ev
      · rename_i l hl
        obtain ⟨hoff, hK⟩ := need_both ev
        obtain ⟨ns, hK, hnl, h⟩ := strsK_sound hK
        refine mok_read hK fun {I w m a σ} hf hH ha => ⟨Instr.loadAt t (a.eval x), by unfold execOp; rw [ho], ?_⟩
        have hv := hf.rv mem1 hx; rw [hb] at hv
        have hi : σ i = some (.box l) := by rw [ha i (foot_mem mem1 hb i (by simp [AV.ids, AV.ids1, AV.ids0])), hl]
        obtain ⟨b, cs, T, fz, h1, h2, _, h3⟩ := hH.obj i _ hi
        obtain ⟨b', h4, h5, _⟩ := hv
        rw [h1] at h4; cases h4
        obtain ⟨d, ti, hd, hti, hh⟩ := nOk_cases hn
        rcases hh with ⟨_, hh⟩ | ⟨hb', _, _⟩
        · cases hh
        · have hlen := RVL0_length h3
          have hn' : off < ns.length := by omega
          have hc' : off < cs.toList.length := by omega
          have hg : ns.getD off [] = ns[off] := by simp [hn']
          have hcell : w.cell? ⟨b, off, none⟩ = some cs.toList[off] := by
            have := cells_of h2 off hc'
            rwa [Nat.zero_add] at this
          rw [hg]
          exact ⟨_, RV_0 (h h3 off hc' hn'), by simp [Instr.loadAt, h5, Instr.sureAddr, loadVar, run_isAgg hd, hb', run_load, hcell]⟩
      · exact ev.elim
    · exact ev.elim
  · cases hok
theorem slice_run {t e : TypeId} {i : TypeInfo} {ao : Option Addr} {len cap A B C : Nat} {lo hi mx : Option Value} {w : World} (h1 : P.underlying t = some (.slice e)) (h2 : P.info? e = some i)
    (hb : (Instr.sliceBounds true len cap lo hi mx).run P w = .ok (A, B, C) w) :
    (Instr.sliceAt t (.slice ao len cap) lo hi mx).run P w = .ok (.slice (if C = A then ao else ao.map (·.add (A * i.size))) (B - A) (C - A)) w := by
  simp [Instr.sliceAt, Instr.slice, run_underlying h1, run_size h2, hb]
theorem RS_slice {I : Nat → Prop} {w : World} {t : Ty} {l : List t.den} {ao : Option Addr} {len cap A B C : Nat} (h : RS I w t l ao len cap) (hAB : A ≤ B) (hB : B ≤ len) (hC : B ≤ C) (hC' : C ≤ cap) :
    RS I w t ((l.take B).drop A) (if C = A then ao else ao.map (·.add (A * t.size))) (B - A) (C - A) := by
  obtain ⟨h1, h2, h3, h4⟩ := RS_ea.1 h
  refine RS_ea.2 ⟨by simp; omega, by omega, by omega, fun h0 => ?_⟩
  obtain ⟨b, o, rfl, hb, h5⟩ := h4 (by omega)
  rw [if_neg (by omega)]
  exact ⟨b, o + A * t.size, by simp [addr_add], hb, ((h5.take B).drop A).congr fun k _ => by rw [Nat.add_assoc]⟩
theorem slice_mok {size : Nat} {x' : Opd} {lo' hi' mx' : Option Opd} (hok : opOk P o.op (.slice size x' lo' hi' mx') = true) (ev : evOp Γ (.slice size x' lo' hi' mx') fr st nx K) :
    MOK P o ([x'] ++ optL lo' ++ optL hi' ++ optL mx') fr (footL ([x'] ++ optL lo' ++ optL hi' ++ optL mx') fr) wr st nx K := by
  simp only [opOk] at hok
  split at hok
  · rename_i t x lo hi mx ho
    simp only [Bool.and_eq_true] at hok
    obtain ⟨⟨⟨⟨hx, hlo⟩, hhi⟩, hmx⟩, h5⟩ := hok
    split at h5
    · rename_i e he
      have he := slElem_of he
      obtain ⟨i, hi0, hn⟩ := sizeIs_of h5
      have hmem : x' ∈ [x'] ++ optL lo' ++ optL hi' ++ optL mx' := by simp
      have hex : ∀ (a : Act), execOp a.eval o = (do pure (.value (← Instr.sliceAt t (a.eval x) (lo.map a.eval) (hi.map a.eval) (mx.map a.eval)))) := fun a => by unfold execOp; rw [ho]
      -- the bounds, two of them
      have two : ∀ {A B : Int} {len cap : Nat} {I : Nat → Prop} {w : World} {m : M} {a : Act}, mx' = none → FOn ([x'] ++ optL lo' ++ optL hi' ++ optL mx') fr I w m a →
          ((lo' = none ∧ A = 0) ∨ ∃ y k, lo' = some y ∧ y.ev fr = .int k A) → ((hi' = none ∧ B = len) ∨ ∃ y k, hi' = some y ∧ y.ev fr = .int k B) → 0 ≤ A → A ≤ B → B ≤ cap →
          (Instr.sliceBounds true len cap (lo.map a.eval) (hi.map a.eval) (mx.map a.eval)).run P w = .ok (A.toNat, B.toNat, cap) w := fun {A B len cap I w m a} hmx' hf hA hB h0 hAB hB' => by
        have ra := opt_rv hf hlo (fun y hy => by simp [hy]) hA
        have rb := opt_rv hf hhi (fun y hy => by simp [hy]) hB
        have : mx = none := by subst hmx'; cases mx with | none => rfl | some _ => cases hmx
        subst this
        refine bounds_run ?_ ?_ (by omega) (by omega)
        · rcases ra with ⟨rfl, _, rfl⟩ | ⟨k, y, rfl, _, h⟩
          · exact .inl ⟨rfl, rfl⟩
          · exact .inr ⟨k, by simp only [Option.map_some, h]; rw [Int.toNat_of_nonneg h0]⟩
        · rcases rb with ⟨rfl, _, rfl⟩ | ⟨k, y, rfl, _, h⟩
          · exact .inl ⟨rfl, by simp⟩
          · exact .inr ⟨k, by simp only [Option.map_some, h]; rw [Int.toNat_of_nonneg (by omega)]⟩
      have three : ∀ {A B C : Int} {len cap : Nat} {I : Nat → Prop} {w : World} {m : M} {a : Act}, hi' ≠ none → mx' ≠ none → FOn ([x'] ++ optL lo' ++ optL hi' ++ optL mx') fr I w m a →
          ((lo' = none ∧ A = 0) ∨ ∃ y k, lo' = some y ∧ y.ev fr = .int k A) → ((hi' = none ∧ B = len) ∨ ∃ y k, hi' = some y ∧ y.ev fr = .int k B) → ((mx' = none ∧ C = 0) ∨ ∃ y k, mx' = some y ∧ y.ev fr = .int k C) → 0 ≤ A → A ≤ B → B = C → B ≤ cap →
          (Instr.sliceBounds true len cap (lo.map a.eval) (hi.map a.eval) (mx.map a.eval)).run P w = .ok (A.toNat, B.toNat, B.toNat) w := fun {A B C len cap I w m a} hh' hm' hf hA hB hC h0 hAB hBC hB' => by
        have ra := opt_rv hf hlo (fun y hy => by simp [hy]) hA
        have rb := opt_rv hf hhi (fun y hy => by simp [hy]) hB
        have rc := opt_rv hf hmx (fun y hy => by simp [hy]) hC
        refine bounds3_run ?_ ?_ ?_ (by omega) (by omega)
        · rcases ra with ⟨rfl, _, rfl⟩ | ⟨k, y, rfl, _, h⟩
          · exact .inl ⟨rfl, rfl⟩
          · exact .inr ⟨k, by simp only [Option.map_some, h]; rw [Int.toNat_of_nonneg h0]⟩
        · rcases rb with ⟨_, h, _⟩ | ⟨k, y, rfl, _, h⟩
          · exact absurd h hh'
          · exact ⟨k, by simp only [Option.map_some, h]; rw [Int.toNat_of_nonneg (by omega)]⟩
        · rcases rc with ⟨_, h, _⟩ | ⟨k, y, rfl, _, h⟩
          · exact absurd h hm'
          · exact ⟨k, by simp only [Option.map_some, h, hBC]; rw [Int.toNat_of_nonneg (by omega)]⟩
      simp only [evOp] at ev
      split at ev
      · -- nil
        rename_i hb
        split at ev
        · refine mok_read ev fun {I w m a σ} hf hH ha => ⟨_, hex a, ?_⟩
          have hv := hf.rv hmem hx; rw [hb] at hv
          have hv : a.eval x = .slice none 0 0 := hv
          refine ⟨.slice none 0 0, rfl, ?_⟩
          rw [hv, slice_run he hi0 (two (A := 0) (B := (0 : Nat)) (len := 0) (cap := 0) rfl hf (.inl ⟨rfl, rfl⟩) (.inl ⟨rfl, rfl⟩) (by omega) (by omega) (by omega))]
          simp
        · exact ev.elim
      · -- data
        rename_i t' l hb
        split at ev
        · rename_i hsz
          have hsz := Nat.eq_of_beq_eq_true hsz
          have fin2 : ∀ {A B : Int} {y : List t'.den}, mx' = none → y = (l.take B.toNat).drop A.toNat → ((lo' = none ∧ A = 0) ∨ ∃ y k, lo' = some y ∧ y.ev fr = .int k A) → ((hi' = none ∧ B = l.length) ∨ ∃ y k, hi' = some y ∧ y.ev fr = .int k B) → 0 ≤ A → A ≤ B → B ≤ l.length → K (.imm t' y) st nx →
              MOK P o ([x'] ++ optL lo' ++ optL hi' ++ optL mx') fr (footL ([x'] ++ optL lo' ++ optL hi' ++ optL mx') fr) wr st nx K := fun {A B y} hm hy hA hB h0 hAB hBl hK => by
            refine mok_read hK fun {I w m a σ} hf hH ha => ⟨_, hex a, ?_⟩
            have hv := hf.rv hmem hx; rw [hb] at hv
            obtain ⟨ao, len, cap, e1, hR⟩ := hv
            have hlen : len = l.length := hR.1
            have hcap : len ≤ cap := hR.2.1
            subst hlen
            subst hy
            refine ⟨_, ⟨_, _, _, rfl, RS_slice (A := A.toNat) (B := B.toNat) (C := cap) hR (by omega) (by omega) (by omega) (Nat.le_refl _)⟩, ?_⟩
            rw [e1, slice_run he hi0 (two hm hf hA hB h0 hAB (by omega)), hn, hsz]
          split at ev
          · rename_i mm
            split at ev
            · exact ev.elim
            · rename_i hh
              obtain ⟨A, ev1, hA⟩ := optK_cases ev
              obtain ⟨kb, B, hB, ev2⟩ := natK_cases ev1
              obtain ⟨kc, C, hC, ev3⟩ := natK_cases ev2
              obtain ⟨⟨h0, hAB, hBC, hBl⟩, hK⟩ := need_both ev3
              refine mok_read hK fun {I w m a σ} hf hH ha => ⟨_, hex a, ?_⟩
              have hv := hf.rv hmem hx; rw [hb] at hv
              obtain ⟨ao, len, cap, e1, hR⟩ := hv
              have hlen : len = l.length := hR.1
              have hcap : len ≤ cap := hR.2.1
              subst hlen
              refine ⟨_, ⟨_, _, _, rfl, RS_slice (A := A.toNat) (B := B.toNat) (C := B.toNat) hR (by omega) (by omega) (by omega) (by omega)⟩, ?_⟩
              rw [e1, slice_run he hi0 (three (by simp) (by simp) hf hA (.inr ⟨_, kb, rfl, hB⟩) (.inr ⟨_, kc, rfl, hC⟩) h0 hAB hBC (by omega)), hn, hsz]
          · split at ev
            · exact fin2 (A := 0) (B := l.length) rfl (by simp) (.inl ⟨rfl, rfl⟩) (.inl ⟨rfl, rfl⟩) (by omega) (by omega) (by omega) ev
            · obtain ⟨k, A, h, ev'⟩ := natK_cases ev
              obtain ⟨⟨h0, hAl⟩, hK⟩ := need_both ev'
              exact fin2 (A := A) (B := l.length) rfl (by simp) (.inr ⟨_, k, rfl, h⟩) (.inl ⟨rfl, rfl⟩) h0 hAl (by omega) hK
            · obtain ⟨k, B, h, ev'⟩ := natK_cases ev
              obtain ⟨⟨h0, hBl⟩, hK⟩ := need_both ev'
              exact fin2 (A := 0) (B := B) rfl (by simp) (.inl ⟨rfl, rfl⟩) (.inr ⟨_, k, rfl, h⟩) (by omega) h0 hBl hK
            · obtain ⟨k, A, h, ev'⟩ := natK_cases ev
              obtain ⟨k', B, h', ev''⟩ := natK_cases ev'
              obtain ⟨⟨h0, hAB, hBl⟩, hK⟩ := need_both ev''
              exact fin2 (A := A) (B := B) rfl rfl (.inr ⟨_, k, rfl, h⟩) (.inr ⟨_, k', rfl, h'⟩) h0 hAB hBl hK
        · exact ev.elim
      · -- a whole row
        rename_i j hb
        split at ev
        · rename_i fz t' l hl
          split at ev
          · rename_i hsz
            have hsz := Nat.eq_of_beq_eq_true hsz
            have hrow : ∀ {I : Nat → Prop} {w : World} {m : M} {σ : Sto}, HRel I w m σ → (∀ i ∈ footL ([x'] ++ optL lo' ++ optL hi' ++ optL mx') fr, σ i = st.get i) → m.sz j = t'.size ∧ l.length = m.len j ∧ m.cap j ≤ maxLen := fun {I w m σ} hH ha => by
              have hj : σ j = some (.row fz t' l) := by rw [ha j (foot_mem hmem hb j (by simp [AV.ids, AV.ids1, AV.ids0])), hl]
              obtain ⟨k1, k2, k3, k4, k5⟩ := row_lies (hH.obj j _ hj)
              exact ⟨k1, k2, k4⟩
            have part : ∀ {A B C : Nat} {ao : Option Addr} {len cap : Nat} {m : M}, RO m j ao len cap → m.sz j = t'.size → m.cap j ≤ maxLen → A ≤ B → B ≤ len → B ≤ C → C ≤ cap → RW m j A (B - A) (if C = A then ao else ao.map (·.add (A * i.size))) (B - A) (C - A) := fun {A B C ao len cap m} hO hz hc h1 h2 h3 h4 => by
              obtain ⟨g1, g2, g3, g4, g5, g6⟩ := hO
              refine ⟨g1, rfl, by omega, by omega, hc, ?_⟩
              rcases g6 with ⟨g6, rfl, g7⟩ | ⟨b, g6, rfl⟩
              · exact .inl ⟨g6, by simp, by omega⟩
              · by_cases e : C = A
                · exact .inr ⟨b, 0, g6, by rw [if_pos e], fun h => by omega⟩
                · exact .inr ⟨b, 0 + A * i.size, g6, by rw [if_neg e]; simp [addr_add], fun _ => by rw [hz, hsz, hn]; omega⟩
            have fin2 : ∀ {A B : Int}, mx' = none → ((lo' = none ∧ A = 0) ∨ ∃ y k, lo' = some y ∧ y.ev fr = .int k A) → ((hi' = none ∧ B = l.length) ∨ ∃ y k, hi' = some y ∧ y.ev fr = .int k B) → 0 ≤ A → A ≤ B → B ≤ l.length → K (.view j A.toNat (B - A).toNat) st nx →
                MOK P o ([x'] ++ optL lo' ++ optL hi' ++ optL mx') fr (footL ([x'] ++ optL lo' ++ optL hi' ++ optL mx') fr) wr st nx K := fun {A B} hm hA hB h0 hAB hBl hK => by
              refine mok_read hK fun {I w m a σ} hf hH ha => ⟨_, hex a, ?_⟩
              have hv := hf.rv hmem hx; rw [hb] at hv
              obtain ⟨k1, k2, k3⟩ := hrow hH ha
              obtain ⟨ao, len, cap, e1, hO⟩ := hv
              have hlen : len = l.length := by rw [hO.2.1, k2]
              have hcap : len ≤ cap := hO.2.2.2.1
              have hp := part (A := A.toNat) (B := B.toNat) (C := cap) hO k1 k3 (by omega) (by omega) (by omega) (Nat.le_refl _)
              refine ⟨_, ⟨_, _, _, rfl, by rw [show (B - A).toNat = B.toNat - A.toNat by omega]; exact hp⟩, ?_⟩
              rw [e1, slice_run he hi0 (two hm hf hA (by rw [hlen]; exact hB) h0 hAB (by omega))]
            split at ev
            · rename_i mm
              split at ev
              · exact ev.elim
              · rename_i hh
                obtain ⟨A, ev1, hA⟩ := optK_cases ev
                obtain ⟨kb, B, hB, ev2⟩ := natK_cases ev1
                obtain ⟨kc, C, hC, ev3⟩ := natK_cases ev2
                obtain ⟨⟨h0, hAB, hBC, hBl⟩, hK⟩ := need_both ev3
                refine mok_read hK fun {I w m a σ} hf hH ha => ⟨_, hex a, ?_⟩
                have hv := hf.rv hmem hx; rw [hb] at hv
                obtain ⟨k1, k2, k3⟩ := hrow hH ha
                obtain ⟨ao, len, cap, e1, hO⟩ := hv
                have hlen : len = l.length := by rw [hO.2.1, k2]
                have hcap : len ≤ cap := hO.2.2.2.1
                have hp := part (A := A.toNat) (B := B.toNat) (C := B.toNat) hO k1 k3 (by omega) (by omega) (by omega) (by omega)
                refine ⟨_, ⟨_, _, _, rfl, by rw [show (B - A).toNat = B.toNat - A.toNat by omega]; exact hp⟩, ?_⟩
                rw [e1, slice_run he hi0 (three (by simp) (by simp) hf hA (.inr ⟨_, kb, rfl, hB⟩) (.inr ⟨_, kc, rfl, hC⟩) h0 hAB hBC (by omega))]
            · split at ev
              · refine mok_read ev fun {I w m a σ} hf hH ha => ⟨_, hex a, ?_⟩
                have hv := hf.rv hmem hx; rw [hb] at hv
                obtain ⟨k1, k2, k3⟩ := hrow hH ha
                obtain ⟨ao, len, cap, e1, hO⟩ := hv
                have hcap : len ≤ cap := hO.2.2.2.1
                refine ⟨.slice ao len cap, ⟨_, _, _, rfl, hO⟩, ?_⟩
                rw [e1, slice_run he hi0 (two (A := 0) (B := (len : Int)) rfl hf (.inl ⟨rfl, rfl⟩) (.inl ⟨rfl, rfl⟩) (by omega) (by omega) (by omega))]
                have : (if cap = (0 : Int).toNat then ao else ao.map (·.add ((0 : Int).toNat * i.size))) = ao := by
                  split
                  · rfl
                  · cases ao with
                    | none => rfl
                    | some q => simp [Addr.add]
                rw [this]; simp
              · obtain ⟨A, ev1, hA⟩ := optK_cases ev
                obtain ⟨B, ev2, hB⟩ := optK_cases ev1
                obtain ⟨⟨h0, hAB, hBl⟩, hK⟩ := need_both ev2
                exact fin2 rfl hA hB h0 hAB hBl hK
          · exact ev.elim
        · exact ev.elim
      · -- a part of a row
        rename_i j off q hb
        split at ev
        · rename_i fz t' l hl
          split at ev
          · rename_i hsz
            have hsz := Nat.eq_of_beq_eq_true hsz
            split at ev
            · exact ev.elim
            · obtain ⟨A, ev1, hA⟩ := optK_cases ev
              obtain ⟨B, ev2, hB⟩ := optK_cases ev1
              obtain ⟨⟨h0, hAB, hBl⟩, hK⟩ := need_both ev2
              refine mok_read hK fun {I w m a σ} hf hH ha => ⟨_, hex a, ?_⟩
              have hv := hf.rv hmem hx; rw [hb] at hv
              have hj : σ j = some (.row fz t' l) := by rw [ha j (foot_mem hmem hb j (by simp [AV.ids, AV.ids1, AV.ids0])), hl]
              obtain ⟨k1, k2, k3, k4, k5⟩ := row_lies (hH.obj j _ hj)
              obtain ⟨ao, len, cap, e1, g1, g2, g3, g4, g5, g6⟩ := hv
              refine ⟨.slice (if cap = A.toNat then ao else ao.map (·.add (A.toNat * i.size))) (B.toNat - A.toNat) (cap - A.toNat), ⟨_, _, _, rfl, g1, by omega, by omega, by omega, g5, ?_⟩, ?_⟩
              · rcases g6 with ⟨g6, rfl, g7⟩ | ⟨b, ofs, g6, rfl, g7⟩
                · exact .inl ⟨g6, by simp, by omega⟩
                · by_cases e : cap = A.toNat
                  · exact .inr ⟨b, ofs, g6, by rw [if_pos e], fun h => by omega⟩
                  · exact .inr ⟨b, ofs + A.toNat * i.size, g6, by rw [if_neg e]; simp [addr_add], fun _ => by rw [g7 (by omega), k1, hsz, hn, Nat.add_mul]⟩
              · rw [e1, slice_run he hi0 (two rfl hf hA (by rw [g2]; exact hB) h0 hAB (by omega))]
          · exact ev.elim
        · exact ev.elim
      · exact ev.elim
    · cases h5
  · cases hok
/-- A slice over an array that a pointer leads to. -/
theorem sarr_run {t e : TypeId} {n : Nat} {i : TypeInfo} {b off : Nat} {w : World} (h1 : P.underlying t = some (.array n e)) (h2 : P.info? e = some i) (h3 : 0 < n) :
    (Instr.sliceAt t (.pointer (some ⟨b, off, none⟩)) none none none).run P w = .ok (.slice (some ⟨b, off, none⟩) n n) w := by
  have h4 : n ≠ 0 := by omega
  simp [Instr.sliceAt, run_underlying h1, Instr.sureAddr, Instr.sliceBounds, run_size h2, h4, addr_add]
theorem sarr_mok {t : Ty} {n : Nat} {x' : Opd} (hok : opOk P o.op (.sarr t n x') = true) (ev : evOp Γ (.sarr t n x') fr st nx K) : MOK P o [x'] fr (footL [x'] fr) wr st nx K := by
  simp only [evOp] at ev
  simp only [opOk] at hok
  split at hok
  · rename_i ty x lo hi mx ho
    simp only [Bool.and_eq_true, Option.isNone_iff_eq_none] at hok
    obtain ⟨⟨⟨⟨hx, rfl⟩, rfl⟩, rfl⟩, h5⟩ := hok
    split at h5
    · rename_i k e hd
      simp only [Bool.and_eq_true, beq_iff_eq, decide_eq_true_eq] at h5
      obtain ⟨⟨⟨rfl, h6⟩, h7⟩, h8⟩ := h5
      obtain ⟨i, hi, hn⟩ := sizeIs_of h6
      have hex : ∀ (a : Act), execOp a.eval o = (do pure (.value (← Instr.sliceAt ty (a.eval x) none none none))) := fun a => by unfold execOp; rw [ho]; rfl
      split at ev
      · rename_i j off hb
        refine mok_read ev fun {I w m a σ} hf hH ha => ⟨_, hex a, ?_⟩
        have hv := hf.rv mem1 hx; rw [hb] at hv
        obtain ⟨b, h1, h2, h3⟩ := hv
        exact ⟨_, ⟨b, k, h1, rfl, Nat.le_refl _, by unfold maxLen; omega, h3⟩, by rw [h2]; exact sarr_run hd hi h7⟩
      · rename_i t' y q off hb
        split at ev
        · rename_i kd
          split at ev
          · rename_i hle
            have hle := Nat.le_of_ble_eq_true hle
            obtain ⟨ns, hK, hns⟩ := intsK_sound ev
            refine mok_read hK fun {I w m a σ} hf hH ha => ⟨_, hex a, ?_⟩
            have hv := hf.rv mem1 hx; rw [hb] at hv
            obtain ⟨b, ofs, e1, hbI, hq, h1⟩ := hv
            obtain ⟨es, h2, h3⟩ := h1 q hq
            have hget : y.getD q t'.dflt = y[q] := by simp [hq]
            rw [hget] at hns
            have hel := RC_length t' _ _ h2
            obtain ⟨e2, e3⟩ := hns (RVL0_take k (RVL0_drop off (RC_cells (m := m) t' _ _ h2)))
            have hnl : ns.length = k := by
              have := congrArg List.length e2
              simp only [List.length_take, List.length_drop, List.length_map] at this; omega
            refine ⟨_, ⟨some ⟨b, ofs + q * t'.size + off, none⟩, k, k, rfl, hnl.symm, Nat.le_refl _, by unfold maxLen; omega, fun _ => ⟨b, ofs + q * t'.size + off, rfl, hbI, fun i hi' => ⟨[.int kd ns[i]], ?_, fun j hj => ?_⟩⟩⟩, by rw [e1]; exact sarr_run hd hi h7⟩
            · simp only [RC]; exact ⟨trivial, e3 _ (List.getElem_mem hi')⟩
            · have hj0 : j = 0 := by simp at hj; omega
              subst hj0
              have h5 : off + i < es.length := by omega
              have h6 := h3 (off + i) h5
              have h8 : es[off + i]? = some (.int kd ns[i]) := by
                have : (((es.drop off).take k))[i]? = some (.int kd ns[i]) := by rw [e2]; simp [hi']
                rwa [List.getElem?_take, if_pos (by omega), List.getElem?_drop] at this
              have h9 : es[off + i] = .int kd ns[i] := by
                rw [List.getElem?_eq_getElem h5] at h8; exact Option.some.inj h8
              rw [h9] at h6
              have e5 : ofs + q * t'.size + off + i * (Ty.int kd).size + 0 = ofs + q * t'.size + (off + i) := by
                show _ + i * 1 + 0 = _; omega
              rw [e5]; exact h6
          · exact ev.elim
        · exact ev.elim
      · rename_i j q off hb
        split at ev
        · rename_i fz t' l hl
          split at ev
          · obtain ⟨⟨rfl, rfl, rfl⟩, hK⟩ := need_both ev
            refine mok_read hK fun {I w m a σ} hf hH ha => ⟨_, hex a, ?_⟩
            have hv := hf.rv mem1 hx; rw [hb] at hv
            have hj : σ j = some (.row fz t' l) := by rw [ha j (foot_mem mem1 hb j (by simp [AV.ids, AV.ids1, AV.ids0])), hl]
            obtain ⟨k1, k2, k3, k4, k5⟩ := row_lies (hH.obj j _ hj)
            obtain ⟨b, h1, h2, h3⟩ := hv
            exact ⟨_, ⟨_, _, _, rfl, h3, rfl, Nat.le_refl _, by omega, k4, .inr ⟨b, 0 * m.sz j + 0, h1, rfl, fun _ => by simp⟩⟩, by rw [h2]; exact sarr_run hd hi h7⟩
          · exact ev.elim
        · exact ev.elim
      · exact ev.elim
    · cases h5
  · cases hok
/-- Bytes as a text. -/
theorem bytes_fold (ns : List Int) (h : ∀ n ∈ ns, 0 ≤ n ∧ n ≤ 255) : ∀ (s : ByteArray), bytesI (ns.foldl (fun r n => r.push (UInt8.ofNat n.toNat)) s) = bytesI s ++ ns := by
  induction ns with
  | nil => intro s; simp
  | cons n ns ih =>
    intro s
    rw [List.foldl_cons, ih (fun n hn => h n (by simp [hn]))]
    have hn := h n (by simp)
    have : bytesI (s.push (UInt8.ofNat n.toNat)) = bytesI s ++ [n] := by
      unfold bytesI
      have e : ((UInt8.ofNat n.toNat).toNat : Int) = n := by
        rw [UInt8.toNat_ofNat']; omega
      simp only [ByteArray.data_push, Array.toList_push, List.map_append, List.map_cons, List.map_nil, e]
    rw [this, List.append_assoc]; rfl
theorem RC_u8 {I : Nat → Prop} {w : World} {x : Int} {es : List Value} (h : RC I w (.int .u8) x es) : es = [.int .u8 x] ∧ 0 ≤ x ∧ x ≤ 255 := by
  obtain ⟨h1, h2⟩ := h
  refine ⟨h1, ?_⟩
  simpa [inK, IntKind.min, IntKind.max, IntKind.signed, IntKind.bits] using h2
theorem src_bytes {I : Nat → Prop} {w : World} {ys : List Int} {f : Nat → Option Value} (h : EA I w (.int .u8) ys f) : (∀ n ∈ ys, 0 ≤ n ∧ n ≤ 255) ∧ ∀ k (hk : k < ys.length), f k = some (.int .u8 ys[k]) := by
  have key : ∀ k (hk : k < ys.length), (0 ≤ ys[k] ∧ ys[k] ≤ 255) ∧ f k = some (.int .u8 ys[k]) := fun k hk => by
    obtain ⟨es, h1, h2⟩ := h k hk
    obtain ⟨rfl, h3⟩ := RC_u8 h1
    have := h2 0 (by simp)
    simp only [Ty.size, Nat.mul_one, Nat.add_zero, List.getElem_cons_zero] at this
    exact ⟨h3, this⟩
  refine ⟨fun n hn => ?_, fun k hk => (key k hk).2⟩
  obtain ⟨k, hk, rfl⟩ := List.mem_iff_getElem.1 hn
  exact (key k hk).1
theorem b2s_mok {x' : Opd} (hok : opOk P o.op (.b2s x') = true) (ev : evOp Γ (.b2s x') fr st nx K) : MOK P o [x'] fr (footL [x'] fr) wr st nx K := by
  simp only [evOp] at ev
  simp only [opOk] at hok
  split at hok
  · rename_i src dst x ho
    simp only [Bool.and_eq_true] at hok
    obtain ⟨⟨hx, hd⟩, h3⟩ := hok
    have hd := isStr_of hd
    split at h3
    · rename_i e he
      have he := slElem_of he
      split at h3
      · rename_i hu
        obtain ⟨ys, hK, h⟩ := dataK_sound ev
        refine mok_read hK fun {I w m a σ} hf hH ha => ⟨convert src dst (a.eval x), by unfold execOp; rw [ho], ?_⟩
        have hv := hf.rv mem1 hx
        have hv0 : RV0 I w m (x'.ev fr) (a.eval x) := by
          unfold dataK at ev
          generalize x'.ev fr = v at ev hv
          cases v <;> first | exact hv | exact ev.elim
        obtain ⟨ao, len, cap, e1, h4, h5, h6⟩ := h hH (fun i hi => ha i (foot_mem mem1 rfl i (by
          unfold dataK at ev
          generalize x'.ev fr = v at ev hi ⊢
          cases v <;> first | exact hi | exact ev.elim))) hv0
        rw [e1]
        rcases Nat.eq_zero_or_pos len with h0 | h0
        · have hys : ys = [] := List.eq_nil_of_length_eq_zero (by omega)
          subst hys; subst h0
          cases ao with
          | none =>
            refine ⟨.string ByteArray.empty, ⟨_, rfl, rfl, Nat.zero_le _⟩, ?_⟩
            rw [run_convert_bytes_string (P := P) w src dst e none 0 cap he hu hd]; simp [Conv.bytesToString]
          | some q =>
            refine ⟨.string ByteArray.empty, ⟨_, rfl, rfl, Nat.zero_le _⟩, ?_⟩
            rw [run_convert_bytes_string (P := P) w src dst e _ 0 cap he hu hd, run_bytesToString w q 0 cap [] (by simp [loadCells, loadCellsFrom])]
            rfl
        · obtain ⟨b, ofs, rfl, h7⟩ := h6 h0
          obtain ⟨h8, h9⟩ := src_bytes h7
          have hl : (loadCells ⟨b, ofs, none⟩ len).run P w = .ok (ys.map (Value.int .u8)).toArray w := by
            have := loadCellsFrom_run (P := P) (w := w) (b := b) (off := ofs) (ys.map (Value.int .u8)) 0 #[] (fun j hj => by
              simp only [List.length_map] at hj
              rw [Nat.add_zero, h9 j hj]; simp)
            rw [List.length_map, ← h4] at this
            unfold loadCells
            rw [this]; simp
          have hbf := bytes_fold ys h8 ByteArray.empty
          refine ⟨.string (ys.foldl (fun r n => r.push (UInt8.ofNat n.toNat)) ByteArray.empty), ⟨_, rfl, by rw [hbf]; rfl, ?_⟩, ?_⟩
          · rw [← bytesI_len, hbf]
            show ([] ++ ys).length ≤ maxLen
            simp; omega
          · rw [run_convert_bytes_string (P := P) w src dst e _ len cap he hu hd]
            exact run_bytesToString w _ len cap ys hl
      · cases h3
    · cases h3
  · cases hok
end ops
end Go.Eng
