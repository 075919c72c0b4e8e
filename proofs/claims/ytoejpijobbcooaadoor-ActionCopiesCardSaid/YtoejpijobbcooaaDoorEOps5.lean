/- Operations that make something new. No condition. -/
import Derived.Test.YtoejpijobbcooaaDoorEOps4
namespace Go.Eng
set_option linter.unusedVariables false
set_option linter.unusedSimpArgs false
open Go.RowKit
section ops
variable {P : Program} {Γ : Env} {o : Oper} {fr : Frame} {F : List Nat} {wr : Bool} {st : Store} {nx : Nat} {K : AV → Store → Nat → Prop}
theorem newVar_run {t : TypeId} {v : Value} {w : World} : (newVar t v).run P w = .ok ⟨w.heap.size, 0, none⟩ (w.alloc (.cells v.cells t)) := by
  simp [newVar, newRow]
theorem alloc_get (w : World) (o : Go.Obj) : (w.alloc o).heap[w.heap.size]? = some o := by
  show (w.heap.push _)[w.heap.size]? = _
  rw [Array.getElem?_push_size]
theorem newBox {I : Nat → Prop} {w : World} {m : M} {l : List AV} {cs : Array Value} {T : TypeId} (hu : ¬ m.used nx) (hl : RVL0 I w m l cs.toList) (hs : Same I w (w.alloc (.cells cs T))) :
    ObjOk I (w.alloc (.cells cs T)) (m.push nx (some w.heap.size) 0 0 0) nx (.box l) :=
  ⟨w.heap.size, cs, T, (0, 0), M.push_blk _ _ _ _ _ _, alloc_get _ _, FzOk.zero _, RVL0_mono (fun _ h => h) hs (M.push_le hu) _ _ hl⟩
theorem newPtr {I : Nat → Prop} {w w' : World} {m : M} {c d e : Nat} : RV I w' (m.push nx (some w.heap.size) c d e) (.ptr nx 0) (.pointer (some ⟨w.heap.size, 0, none⟩)) := ⟨w.heap.size, M.push_blk _ _ _ _ _ _, rfl, .inr rfl⟩
theorem box_mok {z : List AV} (hok : opOk P o.op (.box z) = true) (ev : evOp Γ (.box z) fr st nx K) : MOK P o [] fr F wr st nx K := by
  simp only [evOp] at ev
  simp only [opOk] at hok
  split at hok
  · rename_i t ho
    obtain ⟨i, v, hi, hv, hc⟩ := zeroIs_of hok
    refine mok_new ev (fun _ _ h => by cases h) fun {I w m a σ} hf hH ha hu => ⟨Instr.alloc t true (.tuple #[]), by unfold execOp; rw [ho], .pointer (some ⟨w.heap.size, 0, none⟩), w.alloc (.cells v.cells t), some w.heap.size, 0, 0, 0, ?_, Fr.alloc _ _ _, fun b hb => by cases hb; exact Nat.le_refl _, fun hs => newBox hu (consts_rv hc) hs, fun _ => newPtr⟩
    simp [Instr.alloc, zero_run hi hv, newVar_run]
  · cases hok
theorem boxv_mok {x' : Opd} (hok : opOk P o.op (.boxv x') = true) (ev : evOp Γ (.boxv x') fr st nx K) : MOK P o [x'] fr F wr st nx K := by
  simp only [evOp, forceL0_eq] at ev
  simp only [opOk] at hok
  split at hok
  · rename_i t x ho
    split at ev
    · rename_i c hc
      refine mok_new ev (fun _ _ h => by cases h) fun {I w m a σ} hf hH ha hu => ⟨Instr.box t (a.eval x), by unfold execOp; rw [ho], .pointer (some ⟨w.heap.size, 0, none⟩), w.alloc (.cells (a.eval x).cells t), some w.heap.size, 0, 0, 0, ?_, Fr.alloc _ _ _, fun b hb => by cases hb; exact Nat.le_refl _, fun hs => newBox hu (RVL0_flat (hf.rv mem1 hok) hc) hs, fun _ => newPtr⟩
      simp [Instr.box, newVar_run]
    · exact ev.elim
  · cases hok
/-- A type's zero, as data. -/
theorem ofCells_cells : ∀ (t : Ty) (x : t.den) (r : List AV), t.ofCells (t.cells x ++ r) = some (x, r)
  | .int k, n, r => by
    simp only [Ty.cells, List.cons_append, List.nil_append, Ty.ofCells]
    split
    · rfl
    · rename_i h _; exact absurd rfl h
  | .bool, _, _ => rfl
  | .str, _, _ => rfl
  | .nil, _, _ => rfl
  | .cons a b, x, r => by
    simp only [Ty.cells, List.append_assoc, Ty.ofCells, ofCells_cells a, ofCells_cells b]
  | .sl t, x, r => by
    simp only [Ty.cells, List.cons_append, List.nil_append, Ty.ofCells]
    split
    · rfl
    · rename_i h _; exact absurd rfl h
theorem RC_of_cells {I : Nat → Prop} {w : World} {m : M} {t : Ty} {x : t.den} {cs : List Value} (h : RVL0 I w m (t.cells x) cs) : RC I w t x cs := by
  have e := ofCells_cells t x []
  rw [List.append_nil] at e
  exact ofCells_one h (by unfold Ty.one; rw [e])
theorem zeroTy_of {t : TypeId} {ty : Ty} {z : ty.den} (h : zeroTy P t ty z = true) : ∃ i v, P.info? t = some i ∧ i.zero = some v ∧ ∀ (I : Nat → Prop) (w : World), RC I w ty z v.cells.toList := by
  unfold zeroTy at h
  split at h
  · rename_i i hi
    split at h
    · rename_i v hv
      simp only [Bool.and_eq_true] at h
      exact ⟨i, v, hi, hv, fun I w => RC_of_cells (m := ⟨fun _ => none, fun _ => 0, fun _ => 0, fun _ => 0, fun _ => False⟩) (consts_rv h.2)⟩
    · cases h
  · cases h
/-- A new row. -/
theorem newRowOk {I : Nat → Prop} {w w' : World} {m : M} {t : Ty} {x : List t.den} {cs : Array Value} {T : TypeId} {fz : Nat × Nat} {cap : Nat} (hw : w'.heap[w.heap.size]? = some (.cells cs T fz)) (hz : FzOk fz cs.size) (hc : cs.size = cap * t.size) (hl : x.length ≤ cap) (hm : cap ≤ maxLen)
    (he : EA I w' t x fun k => cs[k]?) : ObjOk I w' (m.push nx (some w.heap.size) cap x.length t.size) nx (.row false t x) :=
  ⟨M.push_sz _ _ _ _ _ _, (M.push_len _ _ _ _ _ _).symm, by rw [M.push_cap]; exact hl, by rw [M.push_cap]; exact hm, .inr ⟨w.heap.size, cs, T, fz, M.push_blk _ _ _ _ _ _, hw, hz, by rw [M.push_cap]; exact hc, he⟩⟩
theorem newOwn {I : Nat → Prop} {w w' : World} {m : M} {cap len sz : Nat} (hl : len ≤ cap) (hm : cap ≤ maxLen) : RV I w' (m.push nx (some w.heap.size) cap len sz) (.own nx) (.slice (some ⟨w.heap.size, 0, none⟩) len cap) :=
  ⟨_, _, _, rfl, .inr rfl, (M.push_len _ _ _ _ _ _).symm, (M.push_cap _ _ _ _ _ _).symm, hl, hm, .inr ⟨w.heap.size, M.push_blk _ _ _ _ _ _, rfl⟩⟩
theorem arow_mok {t : Ty} {n : Nat} {z : t.den} (hok : opOk P o.op (.arow t n z) = true) (ev : evOp Γ (.arow t n z) fr st nx K) : MOK P o [] fr F wr st nx K := by
  simp only [evOp] at ev
  simp only [opOk] at hok
  split at hok
  · rename_i ty ho
    split at hok
    · rename_i k e hd
      simp only [Bool.and_eq_true, beq_iff_eq, decide_eq_true_eq] at hok
      obtain ⟨⟨⟨⟨⟨rfl, h1⟩, h2⟩, h3⟩, h4⟩, h5⟩ := hok
      split at h5
      · rename_i i hi
        split at h5
        · rename_i v hv
          have key : ∀ (I : Nat → Prop) (w : World), v.cells.size = k * t.size ∧ EA I w t (List.replicate k z) fun j => v.cells[j]? := fun I w => by
            have hr : RVL0 I w ⟨fun _ => none, fun _ => 0, fun _ => 0, fun _ => 0, fun _ => False⟩ (List.replicate k (t.cells z)).flatten v.cells.toList := consts_rv h5
            have hall : ∀ (k : Nat), t.all k (List.replicate k (t.cells z)).flatten = some (List.replicate k z) := fun k => by
              induction k with
              | zero => rfl
              | succ k ih => simp only [List.replicate_succ, List.flatten_cons, Ty.all, ofCells_cells, ih]
            obtain ⟨_, g2, g3⟩ := all_sound k _ _ _ hr (hall k)
            refine ⟨by simpa using g2, fun j hj => ?_⟩
            obtain ⟨es, g4, g5⟩ := g3 j hj
            exact ⟨es, g4, fun q hq => by rw [← g5 q hq, Array.getElem?_toList]⟩
          refine mok_new ev (fun _ _ h => by cases h) fun {I w m a σ} hf hH ha hu => ⟨Instr.alloc ty true (.tuple #[]), by unfold execOp; rw [ho], .pointer (some ⟨w.heap.size, 0, none⟩), w.alloc (.cells v.cells ty), some w.heap.size, k, k, t.size, ?_, Fr.alloc _ _ _, fun b hb => by cases hb; exact Nat.le_refl _, fun hs => ?_, fun _ => ?_⟩
          · simp [Instr.alloc, zero_run hi hv, newVar_run]
          · obtain ⟨g1, g2⟩ := key I (w.alloc (.cells v.cells ty))
            have := newRowOk (nx := nx) (m := m) (alloc_get w (.cells v.cells ty)) (FzOk.zero _) g1 (by simp) (by unfold maxLen; omega) g2
            rw [List.length_replicate] at this; exact this
          · exact ⟨w.heap.size, M.push_blk _ _ _ _ _ _, by simp, .inr rfl⟩
        · cases h5
      · cases h5
    · cases hok
  · cases hok
theorem mkmap_mok {kt vt : Ty} (hok : opOk P o.op (.mkmap kt vt) = true) (ev : evOp Γ (.mkmap kt vt) fr st nx K) : MOK P o [] fr F wr st nx K := by
  simp only [evOp] at ev
  simp only [opOk] at hok
  split at hok
  · rename_i t r ho
    rw [Option.isNone_iff_eq_none] at hok; subst hok
    refine mok_new ev (fun _ _ h => by cases h) fun {I w m a σ} hf hH ha hu => ⟨Instr.makeMap t none, by unfold execOp; rw [ho]; rfl, .map (some w.heap.size), w.alloc (.map #[] 0), some w.heap.size, 0, 0, 0, ?_, Fr.alloc _ _ _, fun b hb => by cases hb; exact Nat.le_refl _, fun hs => ?_, fun _ => ?_⟩
    · simp [Instr.makeMap]
    · exact ⟨w.heap.size, #[], 0, M.push_blk _ _ _ _ _ _, alloc_get _ _, rfl, fun i h => absurd h (by simp), fun i h => absurd h (by simp), fun _ => ⟨rfl, fun i h => absurd h (by simp)⟩⟩
    · exact ⟨w.heap.size, M.push_blk _ _ _ _ _ _, rfl, .inr rfl⟩
  · cases hok
theorem slice0_mok {t : Ty} (hok : opOk P o.op (.slice0 t) = true) (ev : evOp Γ (.slice0 t) fr st nx K) : MOK P o [] fr F wr st nx K := by
  simp only [evOp] at ev
  simp only [opOk] at hok
  split at hok
  · rename_i ty k parts ho
    simp only [Bool.and_eq_true, beq_iff_eq, Array.isEmpty_iff] at hok
    obtain ⟨⟨rfl, rfl⟩, h3⟩ := hok
    split at h3
    · rename_i e he
      have he := slElem_of he
      obtain ⟨i, hi, hn⟩ := sizeIs_of h3
      refine mok_new ev (fun _ _ h => by cases h) fun {I w m a σ} hf hH ha hu => ⟨Instr.buildSlice ty 0 ((#[] : Array (Nat × Operand)).map fun (i, x) => (i, a.eval x)), by unfold execOp; rw [ho], .slice (some ⟨w.heap.size, 0, none⟩) 0 0, w.alloc (.cells #[] e), some w.heap.size, 0, 0, t.size, ?_, Fr.alloc _ _ _, fun b hb => by cases hb; exact Nat.le_refl _, fun hs => ?_, fun _ => ?_⟩
      · have e0 : (Array.map (fun _ => (default : Value)) (Array.range 0)) = #[] := by apply Array.ext'; simp
        simp [Instr.buildSlice, run_underlying he, run_size hi, Instr.fill, newRow, e0]
      · exact newRowOk (x := []) (alloc_get w _) (FzOk.zero _) (by simp) (Nat.le_refl _) (Nat.zero_le _) EA.nil
      · exact newOwn (Nat.le_refl _) (Nat.zero_le _)
    · cases h3
  · cases hok
theorem range_get (z : Array Value) (n k : Nat) (hk : k < n * z.size) : ((Array.range (n * z.size)).map fun i => z[i % z.size]!)[k]? = z.toList[k % z.size]? := by
  have hpos : 0 < z.size := by
    rcases Nat.eq_zero_or_pos z.size with h | h
    · rw [h] at hk; omega
    · exact h
  have hm := Nat.mod_lt k hpos
  simp [hk, hm]
theorem mkrow_mok {t : Ty} {bytes : Nat} {z : t.den} {n' c' : Opd} (hok : opOk P o.op (.mkrow t bytes z n' c') = true) (ev : evOp Γ (.mkrow t bytes z n' c') fr st nx K) : MOK P o [n', c'] fr F wr st nx K := by
  simp only [evOp] at ev
  simp only [opOk] at hok
  split at hok
  · rename_i ty n c ho
    simp only [Bool.and_eq_true] at hok
    obtain ⟨⟨hn, hc⟩, h3⟩ := hok
    split at h3
    · rename_i e he
      simp only [Bool.and_eq_true] at h3
      obtain ⟨⟨h4, h5⟩, h6⟩ := h3
      have he := slElem_of he
      obtain ⟨i, hi, hsz⟩ := sizeIs_of h4
      obtain ⟨i', hi', hby⟩ := bytesIs_of h5
      rw [hi] at hi'; cases hi'
      obtain ⟨i', v, hi', hv, hz⟩ := zeroTy_of h6
      rw [hi] at hi'; cases hi'
      obtain ⟨k1, N, hN, ev1⟩ := natK_cases ev
      obtain ⟨k2, C, hC, ev2⟩ := natK_cases ev1
      obtain ⟨⟨h0, hNC, hCb, hC47⟩, hK⟩ := need_both ev2
      have hvs : v.cells.size = t.size := by
        have := RC_length t _ _ (hz (fun _ => False) default); simpa using this
      refine mok_new hK (fun _ _ h => by cases h) fun {I w m a σ} hf hH ha hu => ⟨Instr.makeSlice ty (a.eval n) (a.eval c), by unfold execOp; rw [ho], .slice (some ⟨w.heap.size, 0, none⟩) N.toNat C.toNat,
        w.alloc (.cells ((Array.range (C.toNat * v.cells.size)).map fun i => v.cells[i % v.cells.size]!) e), some w.heap.size, C.toNat, N.toNat, t.size, ?_, Fr.alloc _ _ _, fun b hb => by cases hb; exact Nat.le_refl _, fun hs => ?_, fun _ => newOwn (by omega) (by unfold maxLen; omega)⟩
      · have r1 := hf.rv mem2a hn; rw [hN] at r1
        have r2 := hf.rv mem2b hc; rw [hC] at r2
        have w1 : IntKind.i64.wrap N = N := wrap_id ⟨by simp [IntKind.min, IntKind.signed, IntKind.bits]; omega, by simp [IntKind.max, IntKind.signed, IntKind.bits]; omega⟩
        have w2 : IntKind.i64.wrap C = C := wrap_id ⟨by simp [IntKind.min, IntKind.signed, IntKind.bits]; omega, by simp [IntKind.max, IntKind.signed, IntKind.bits]; omega⟩
        have t1 : ¬ (C < 0) := by omega
        have t2 : ¬ ((i.bytes : Int) * C > 281474976710656) := by rw [hby, Int.mul_comm]; omega
        have t3 : ¬ (N < 0) := by omega
        have t4 : ¬ (N > C) := by omega
        have e2 : (Array.range (C.toNat * i.size)).map (fun j => (if C.toNat * i.size = 0 then (#[] : Array Value) else v.cells)[j % (if C.toNat * i.size = 0 then (#[] : Array Value) else v.cells).size]!) = (Array.range (C.toNat * v.cells.size)).map fun i => v.cells[i % v.cells.size]! := by
          rw [hvs, ← hsz]
          by_cases h : C.toNat * i.size = 0
          · rw [h]; apply Array.ext'; simp
          · simp only [if_neg h]; rw [hvs, ← hsz]
        have t2' : ¬ (281474976710656 < (i.bytes : Int) * C) := by omega
        have t4' : ¬ (C < N) := by omega
        rw [(rv_int r1).1, (rv_int r2).1, ← e2]
        by_cases h : C.toNat * i.size = 0
        · simp [Instr.makeSlice, run_underlying he, asInt, asIntOf, typeInfo, hi, w1, w2, t1, t2', t3, t4', run_size hi, h, newRow]
        · simp [Instr.makeSlice, run_underlying he, asInt, asIntOf, typeInfo, hi, w1, w2, t1, t2', t3, t4', run_size hi, h, zero_run hi hv, newRow]
      · have := newRowOk (nx := nx) (m := m) (t := t) (x := List.replicate N.toNat z) (cap := C.toNat) (alloc_get w (.cells ((Array.range (C.toNat * v.cells.size)).map fun i => v.cells[i % v.cells.size]!) e)) (FzOk.zero _) (by simp [hvs]) (by simp; omega) (by unfold maxLen; omega)
          (EA.replicate (es := v.cells.toList) (hz I _) fun k hk => by rw [range_get _ _ _ (by rw [hvs]; exact Nat.lt_of_lt_of_le hk (Nat.mul_le_mul_right _ (by omega))), hvs])
        rw [List.length_replicate] at this; exact this
    · cases h3
  · cases hok
/-- Bytes made of a text. -/
theorem s2b_mok {x' : Opd} (hok : opOk P o.op (.s2b x') = true) (ev : evOp Γ (.s2b x') fr st nx K) : MOK P o [x'] fr F wr st nx K := by
  simp only [evOp] at ev
  simp only [opOk] at hok
  split at hok
  · rename_i src dst x ho
    simp only [Bool.and_eq_true] at hok
    obtain ⟨⟨hx, hs⟩, h3⟩ := hok
    have hs := isStr_of hs
    split at h3
    · rename_i e he
      have he := slElem_of he
      split at h3
      · rename_i hu
        split at ev
        · rename_i l hb
          refine mok_new ev (fun _ _ h => by cases h) fun {I w m a σ} hf hH ha hN => ?_
          have hv := hf.rv mem1 hx; rw [hb] at hv
          obtain ⟨s, e1, rfl, hsz⟩ := hv
          have hcm : grownCap w s.size 0 e ≤ maxLen := by
            have hlt := Nat.mod_lt (w.tape w.drawn (.appendCap s.size 0 e)) (show 0 < 2 ^ 63 - s.size by unfold maxLen at hsz; omega)
            simp only [grownCap, Question.cut]; unfold maxLen at hsz ⊢; omega
          have hcg : s.size ≤ grownCap w s.size 0 e := by simp [grownCap, Question.cut]
          refine ⟨convert src dst (a.eval x), by unfold execOp; rw [ho], .slice (some ⟨w.heap.size, 0, none⟩) s.size (grownCap w s.size 0 e),
            (w.drew.alloc (.cells ((s.data.map fun b => Value.int .u8 b.toNat) ++ Array.replicate (grownCap w s.size 0 e - s.size) (.int .u8 0)) e)).freeze ⟨w.heap.size, grownCap w s.size 0 e, none⟩ 1, some w.heap.size, grownCap w s.size 0 e, s.size, 1, ?_, ?_, fun b hb => by cases hb; exact Nat.le_refl _, fun hs => ?_, fun _ => newOwn hcg hcm⟩
          · rw [e1]
            simp only [convert, Sem.run_bind, run_underlying hs, run_underlying he, run_underlying hu, Result.andThen_ok, Conv.stringToBytes, newRow, markStringish, run_choose, Question.forced, run_newObj, run_shape, Sem.run_pure]
            simp only [Bool.false_eq_true, if_false, Result.andThen_ok]
            have hcap : (Question.appendCap s.size 0 e).cut (w.tape w.drawn (.appendCap s.size 0 e)) = grownCap w s.size 0 e := rfl
            rw [hcap]
            have hsh : (w.drew.alloc (.cells ((s.data.map fun b => Value.int .u8 b.toNat) ++ Array.replicate (grownCap w s.size 0 e - s.size) (.int .u8 0)) e)).shape? w.heap.size = some (e, grownCap w s.size 0 e) := by
              have hg : (w.drew.alloc (.cells ((s.data.map fun b => Value.int .u8 b.toNat) ++ Array.replicate (grownCap w s.size 0 e - s.size) (.int .u8 0)) e)).heap[w.heap.size]? = some (.cells ((s.data.map fun b => Value.int .u8 b.toNat) ++ Array.replicate (grownCap w s.size 0 e - s.size) (.int .u8 0)) e) := alloc_get w.drew _
              simp only [World.shape?, hg, Array.size_append, Array.size_map, Array.size_replicate]
              have hsz' : s.data.size = s.size := rfl
              congr 2; omega
            refine Eq.trans (b := ((Sem.run P (match (w.drew.alloc (.cells ((s.data.map fun b => Value.int .u8 b.toNat) ++ Array.replicate (grownCap w s.size 0 e - s.size) (.int .u8 0)) e)).shape? w.heap.size with
              | some (_, n) => freeze { block := w.heap.size, off := n } 1
              | _ => pure ()) (w.drew.alloc (.cells ((s.data.map fun b => Value.int .u8 b.toNat) ++ Array.replicate (grownCap w s.size 0 e - s.size) (.int .u8 0)) e))).andThen fun _ w' => Result.ok (Value.slice (some { block := w.heap.size, off := 0 }) s.size (grownCap w s.size 0 e)) w')) rfl ?_
            rw [hsh]; rfl
          · have h2 : (w.drew.alloc (.cells ((s.data.map fun b => Value.int .u8 b.toNat) ++ Array.replicate (grownCap w s.size 0 e - s.size) (.int .u8 0)) e)).heap.size = w.heap.size + 1 := by simp
            refine ⟨rfl, rfl, rfl, by simp [World.freeze], fun k hk _ => ?_⟩
            have hne : w.heap.size ≠ k := by omega
            simp only [World.freeze]
            rw [if_neg (by omega)]
            simp only [Array.getElem?_modify, if_neg hne]
            exact heap_alloc_old w.drew _ k hk
          · have hsz' : s.data.size = s.size := rfl
            have hW : ((w.drew.alloc (.cells ((s.data.map fun b => Value.int .u8 b.toNat) ++ Array.replicate (grownCap w s.size 0 e - s.size) (.int .u8 0)) e)).freeze ⟨w.heap.size, grownCap w s.size 0 e, none⟩ 1).heap[w.heap.size]? = some (.cells ((s.data.map fun b => Value.int .u8 b.toNat) ++ Array.replicate (grownCap w s.size 0 e - s.size) (.int .u8 0)) e (grownCap w s.size 0 e, grownCap w s.size 0 e + 1)) := by
              have hg : (w.drew.alloc (.cells ((s.data.map fun b => Value.int .u8 b.toNat) ++ Array.replicate (grownCap w s.size 0 e - s.size) (.int .u8 0)) e)).heap[w.heap.size]? = some (.cells ((s.data.map fun b => Value.int .u8 b.toNat) ++ Array.replicate (grownCap w s.size 0 e - s.size) (.int .u8 0)) e) := alloc_get w.drew _
              simp only [World.freeze]
              rw [if_neg (by omega)]
              show (Array.modify _ _ _)[w.heap.size]? = _
              rw [Array.getElem?_modify, if_pos rfl, hg]; simp
            have hsize : ((s.data.map fun b => Value.int .u8 b.toNat) ++ Array.replicate (grownCap w s.size 0 e - s.size) (Value.int .u8 0)).size = grownCap w s.size 0 e := by
              simp only [Array.size_append, Array.size_map, Array.size_replicate]; omega
            have := newRowOk (nx := nx) (m := m) (t := .int .u8) (x := bytesI s) (cap := grownCap w s.size 0 e) (I := I) hW (fun o ho h1 h2 => by simp only [hsize] at ho h1; omega) (by rw [hsize]; simp [Ty.size]) (by rw [bytesI_len]; exact hcg) hcm (fun k hk => by
              rw [bytesI_len] at hk
              have hb := (s.data[k]'(by omega)).toNat_lt
              refine ⟨[.int .u8 (bytesI s)[k]], ⟨rfl, ?_⟩, fun j hj => ?_⟩
              · simp only [bytesI, List.getElem_map, Array.getElem_toList]
                constructor <;> simp [IntKind.min, IntKind.max, IntKind.signed, IntKind.bits] <;> omega
              · simp only [List.length_cons, List.length_nil] at hj
                obtain rfl : j = 0 := by omega
                simp only [Ty.size, Nat.mul_one, Nat.add_zero, List.getElem_cons_zero]
                rw [Array.getElem?_append_left (by simp; omega)]
                simp [bytesI, show k < s.data.size by omega]
                exact ⟨_, Array.getElem?_eq_getElem (by omega), rfl⟩)
            rw [bytesI_len] at this; exact this
        · exact ev.elim
      · cases h3
    · cases h3
  · cases hok
theorem sliceAll_mok {t : Ty} {n : Nat} {ps : List (Nat × Nat × Opd)} (hok : opOk P o.op (.sliceAll t n ps) = true) (ev : evOp Γ (.sliceAll t n ps) fr st nx K) : MOK P o (ps.map (·.2.2)) fr (footL (ps.map (·.2.2)) fr) true st nx K := by
  simp only [evOp] at ev
  simp only [opOk] at hok
  split at hok
  · rename_i ty k parts ho
    simp only [Bool.and_eq_true, beq_iff_eq] at hok
    obtain ⟨rfl, hok⟩ := hok
    split at hok
    · rename_i e he
      simp only [Bool.and_eq_true, decide_eq_true_eq] at hok
      obtain ⟨⟨⟨⟨⟨h1, h2⟩, h2'⟩, h3⟩, h4⟩, h5⟩ := hok
      have he := slElem_of he
      obtain ⟨i, hi, hn⟩ := sizeIs_of h1
      rw [hi] at h3
      simp only at h3
      obtain ⟨v, hv⟩ := Option.isSome_iff_exists.1 h3
      have hce : P.cellsOf e = i.size := by simp [Program.cellsOf, hi]
      obtain ⟨l, ev1, hids, hcat⟩ := cat_sound ev
      obtain ⟨l', st', T, ev2, ⟨g1, g2⟩, hg⟩ := frzL0_sound ev1
      split at ev2
      · rename_i x hx
        refine ⟨_, st', nx, T, Nat.le_refl _, ev2, g1, fun j hj => .inl ⟨rfl, hids j (g2 j hj).1, (g2 j hj).2⟩, fun {X0 I0 w0 σ I w m a} hf hs ha _ => ?_⟩
        obtain ⟨cs', h6, _, _, h8⟩ := hcat hf h4 (cs := (Array.range (k * t.size)).map fun j => v.cells[j % v.cells.size]!) (by simp)
        rw [List.drop_zero] at h8
        obtain ⟨I1, hs1, hE1, hr⟩ := hg hs fun j hj => ha j (hids j hj)
        obtain ⟨h9, h10, h11⟩ := all_sound k l' cs'.toList x (hr _ h8) hx
        subst h9
        have hsame : Same I1 w (w.alloc (.cells cs' e)) := fun b hb => Below.heap_alloc _ _ _ (hs1.H.Ilt b hb)
        have hE2 : Evo I1 w m (fun b => I1 b ∨ b = w.heap.size) (w.alloc (.cells cs' e)) m := ⟨fun _ h => .inl h, hsame, m.le_refl⟩
        have hsz : (w.alloc (.cells cs' e)).heap.size = w.heap.size + 1 := by simp
        refine run_val (cv := .slice (some ⟨w.heap.size, 0, none⟩) x.length x.length) (w' := w.alloc (.cells cs' e)) (exec_v (S := Instr.buildSlice ty x.length (parts.map fun (i, x) => (i, a.eval x))) (by unfold execOp; rw [ho]) ?_)
          ⟨⟨_, _, _, rfl, RS_ea.2 ⟨rfl, Nat.le_refl _, by unfold maxLen; omega, fun _ => ⟨w.heap.size, 0, rfl, .inr rfl, fun j hj => ?_⟩⟩⟩,
            hs1.step hE2 (fun _ => False) (fun _ _ => rfl) (Fr.alloc _ _ _) (fun b hb => ?_) (fun b hb => ?_) (fun _ _ h => h.elim) (fun _ _ _ h => h.elim) (fun _ _ _ _ _ h => h.elim) (fun _ _ _ h => h.elim) (fun _ _ _ _ h => h.elim), hE1.trans hE2, fun _ h => .inl h⟩
        · have hfill : Instr.fill (fun j => some (j * i.size, i.size)) ((Array.range (x.length * i.size)).map fun j => v.cells[j % v.cells.size]!) (parts.map fun (i, x) => (i, a.eval x)).toList = some cs' := by
            rw [← h6, hce, hn]; simp [Array.toList_map]
          have hg : ¬ (x.length * i.size > 2 ^ 24) := by rw [hn]; omega
          have hz : ¬ (x.length * i.size = 0) := by rw [hn]; omega
          simp only [Instr.buildSlice, Sem.run_bind, run_underlying he, Result.andThen_ok, run_size hi]
          rw [if_neg hg, if_neg hz]
          simp only [Sem.run_bind, zero_run hi hv, Sem.run_pure, Result.andThen_ok, hfill, newRow, run_newObj]
          rfl
        · obtain ⟨es, h12, h13⟩ := h11 j hj
          refine ⟨es, RC_mono (fun _ h => .inl h) hsame t _ _ h12, fun q hq => ?_⟩
          show (w.alloc (.cells cs' e)).cell? ⟨w.heap.size, 0 + (j * t.size + q), none⟩ = _
          rw [cell_block (alloc_get w _), Nat.zero_add, ← h13 q hq, Array.getElem?_toList]
        · rcases hb with h | h
          · exact .inl h
          · exact .inr (.inl (by omega))
        · rcases hb with h | h
          · have := hs1.H.Ilt b h; omega
          · omega
      · exact ev2.elim
    · cases hok
  · cases hok
end ops
end Go.Eng
