/- The engine: Ops8. No condition. -/
import Derived.Test.YtmbcgankddgpjaaDoorEOps7
import Derived.WalkKit
import Derived.MapFrom
namespace Go.Eng
set_option linter.unusedVariables false
set_option linter.unusedSimpArgs false
open Go.RowKit
section ops
variable {P : Program} {Γ : Env} {o : Oper} {L : List Opd} {fr : Frame} {F : List Nat} {wr : Bool} {st : Store} {nx : Nat} {K : AV → Store → Nat → Prop}
theorem nilC_of {x : Operand} (h : nilC x = true) (a : Act) : a.eval x = .slice none 0 0 := by
  unfold nilC at h
  split at h
  · rfl
  · cases h
theorem nilrow_mok {t : Ty} (hok : opOk P o.op (.nilrow t) = true) (ev : evOp Γ (.nilrow t) fr st nx K) : MOK P o [] fr F wr st nx K := by
  simp only [evOp] at ev
  simp only [opOk] at hok
  have hop : ∃ x, nilC x = true ∧ ∀ a : Act, execOp a.eval o = (do pure (.value (← (pure (a.eval x) : Sem Value)))) := by
    split at hok
    · rename_i x ho; exact ⟨x, hok, fun a => by unfold execOp; rw [ho]; rfl⟩
    · rename_i x ho; exact ⟨x, hok, fun a => by unfold execOp; rw [ho]; rfl⟩
    · cases hok
  obtain ⟨x, hx, hex⟩ := hop
  refine mok_new ev (fun _ _ h => by cases h) fun {I w m a σ} hf hH ha hu => ⟨_, hex a, .slice none 0 0, w, none, 0, 0, t.size, by rw [nilC_of hx a]; rfl, Fr.refl _ _, fun b hb => (by cases hb), fun _ => ?_, fun _ => ?_⟩
  · exact ⟨M.push_sz _ _ _ _ _ _, (M.push_len _ _ _ _ _ _).symm, Nat.zero_le _, by rw [M.push_cap]; exact Nat.zero_le _, .inl ⟨M.push_blk _ _ _ _ _ _, M.push_cap _ _ _ _ _ _⟩⟩
  · exact ⟨none, 0, 0, rfl, .inr rfl, (M.push_len _ _ _ _ _ _).symm, (M.push_cap _ _ _ _ _ _).symm, Nat.le_refl _, Nat.zero_le _, .inl ⟨M.push_blk _ _ _ _ _ _, rfl, rfl⟩⟩
theorem len_map {t k e : TypeId} {ts : Array TypeId} {ty : TypeId} {b : Nat} {es : Array MapEntry} {c : Nat} {w : World} (h0 : ts[0]? = some t) (ht : P.underlying t = some (.map k e)) (hb : w.heap[b]? = some (.map es c)) :
    (Builtin.len_ ts ty #[.map (some b)]).run P w = .ok (.int .i64 es.size) w := by
  simp [Builtin.len_, h0, run_underlying ht, goInt, MapKept.run_getObj_map hb]
theorem mlen_mok {x' : Opd} (hok : opOk P o.op (.mlen x') = true) (ev : evOp Γ (.mlen x') fr st nx K) : MOK P o [x'] fr (footL [x'] fr) wr st nx K := by
  simp only [evOp] at ev
  simp only [opOk] at hok
  split at hok
  · rename_i args ts ho
    simp only [Bool.and_eq_true] at hok
    obtain ⟨h1, h2⟩ := hok
    obtain ⟨x, rfl, hx⟩ := args_one h1
    split at h2
    · rename_i t ht
      obtain ⟨k, e, he⟩ := isMap_of h2
      split at ev
      · rename_i i hb
        split at ev
        · rename_i q kt vt l hl
          obtain ⟨hn, ev⟩ := need_both ev
          refine mok_read ev fun {I w m a σ} hf hH ha => ⟨Builtin.len_ ts o.type #[a.eval x], by rw [run_builtin ho]; simp [builtin], .int .i64 l.length, ?_, ?_⟩
          · exact mk_int (inK_i64 (by unfold maxLen; omega))
          · have hi : σ i = some (.map q kt vt l) := by rw [ha i (foot_mem mem1 hb i (by simp [AV.ids, AV.ids1, AV.ids0])), hl]
            obtain ⟨b, es, c, q1, q2, q3⟩ := hH.obj i _ hi
            have hv := hf.rv mem1 hx; rw [hb] at hv
            obtain ⟨b', q4, q5, _⟩ := hv
            rw [q1] at q4; cases q4
            rw [q5, len_map ht he q2, q3.1]
        · exact ev.elim
      · exact ev.elim
    · cases h2
  · cases hok
theorem rngs_mok {x' : Opd} (hok : opOk P o.op (.rngs x') = true) (ev : evOp Γ (.rngs x') fr st nx K) : MOK P o [x'] fr F wr st nx K := by
  simp only [evOp] at ev
  simp only [opOk] at hok
  split at hok
  · rename_i t x ho
    simp only [Bool.and_eq_true] at hok
    obtain ⟨hx, ht⟩ := hok
    split at ev
    · rename_i l hl
      refine mok_new ev (fun _ _ h => by cases h) fun {I w m a σ} hf hH ha hu => ?_
      have hv := hf.rv mem1 hx; rw [hl] at hv
      obtain ⟨s, e1, rfl, e3⟩ := hv
      refine ⟨Instr.range t (a.eval x), by unfold execOp; rw [ho], .pointer (some ⟨w.heap.size, 0, none⟩), w.alloc (.stringIter s 0), some w.heap.size, 0, 0, 0, ?_, Fr.alloc _ _ _, fun b hb => by cases hb; exact Nat.le_refl _, fun hs => ⟨w.heap.size, s, M.push_blk _ _ _ _ _ _, alloc_get _ _, rfl, e3⟩, fun _ => newPtr⟩
      rw [e1]
      simp [Instr.range, run_underlying (isStr_of ht)]
    · exact ev.elim
  · cases hok
theorem nxts_mok {x' : Opd} (hok : opOk P o.op (.nxts x') = true) (ev : evOp Γ (.nxts x') fr st nx K) : MOK P o [x'] fr (footL [x'] fr) true st nx K := by
  simp only [evOp, Store.setK_eq] at ev
  simp only [opOk] at hok
  split at hok
  · rename_i x ho
    split at ev
    · rename_i i off hb
      split at ev
      · split at ev
        · rename_i l p hl
          have hiF : i ∈ footL [x'] fr := foot_mem mem1 hb i (by simp [AV.ids, AV.ids1, AV.ids0])
          rcases cnd_cases ev with ⟨hlt, ev⟩ | ⟨hge, ev⟩
          · have hlt := of_decide_eq_true hlt
            refine mok_of (mok_write (ob := .iter l p) (ob' := .iter l (p + (runeL l p).2)) hl rfl rfl hiF rfl ev fun {I w m a σ} _ hf hH ha => ?_)
            have hi : σ i = some (.iter l p) := by rw [ha i hiF, hl]
            obtain ⟨b, s, q1, q2, rfl, q4⟩ := hH.obj i _ hi
            have hv := hf.rv mem1 hok; rw [hb] at hv
            obtain ⟨b', q5, q6, _⟩ := hv
            rw [q1] at q5; cases q5
            have hsz : p < s.size := by rw [bytesI_len] at hlt; exact hlt
            have hbl := lt_of_get q2
            refine ⟨.tuple #[.bool true, .int .i64 p, .int .i32 ((runeL (bytesI s) p).1 : Nat)], { w with heap := w.heap.setIfInBounds b (.stringIter s (p + (runeL (bytesI s) p).2)) }, .inl (exec_v (S := Instr.next (a.eval x) true o.type) (by unfold execOp; rw [ho]) ?_), ⟨rfl, rfl, rfl, by simp, fun k _ hk => ?_⟩, fun _ => ⟨b, s, q1, ?_, rfl, q4⟩, fun _ => ?_⟩
            · rw [q6]
              simp [Instr.next, getObj, setObj, Sem.run, q2, hsz, runeL_eq, goInt]
            · have hne : k ≠ b := fun e => hk (by rw [e]; exact q1)
              simp [Array.getElem?_setIfInBounds_ne (Ne.symm hne)]
            · simp [hbl]
            · have := rune_le (bytesI s) p
              have hml : maxLen ≤ 9223372036854775807 := by decide
              refine ⟨_, rfl, ?_⟩
              refine ⟨rfl, ⟨rfl, ?_⟩, ⟨rfl, ?_⟩, trivial⟩
              · exact inK_i64 (by omega)
              · constructor
                · exact Int.le_trans (show IntKind.i32.min ≤ 0 by decide) (Int.natCast_nonneg _)
                · exact Int.le_trans (Int.ofNat_le.2 this) (by decide)
          · have hge := of_decide_eq_false hge
            refine mok_read ev fun {I w m a σ} hf hH ha => ⟨Instr.next (a.eval x) true o.type, by unfold execOp; rw [ho], .tuple #[.bool false], ⟨_, rfl, rfl, trivial⟩, ?_⟩
            have hi : σ i = some (.iter l p) := by rw [ha i hiF, hl]
            obtain ⟨b, s, q1, q2, rfl, q4⟩ := hH.obj i _ hi
            have hv := hf.rv mem1 hok; rw [hb] at hv
            obtain ⟨b', q5, q6, _⟩ := hv
            rw [q1] at q5; cases q5
            have hsz : ¬ p < s.size := by rw [bytesI_len] at hge; exact hge
            rw [q6]
            simp [Instr.next, getObj, Sem.run, q2, hsz]
        · exact ev.elim
      · exact ev.elim
    · exact ev.elim
  · cases hok
theorem src_firstN {I : Nat → Prop} {w : World} {t : Ty} {ys : List t.den} {cv : Value} (h : Src I w t ys cv) (n : Nat) (hn : n ≤ ys.length) : ∃ news : List Value, news.length = n * t.size ∧ (∀ v ∈ news, v.oneCell' = true) ∧ (EA I w t (ys.take n) fun k => news[k]?) ∧
    (Builtin.firstCells t.size n cv).run P w = .ok news.toArray w ∧ (Builtin.lenOf cv).run P w = .ok ys.length w := by
  obtain ⟨ao, len, cap, rfl, h1, h2, h3⟩ := h
  subst h1
  have hl : (ys.take n).length = n := by simp; omega
  rcases Nat.eq_zero_or_pos n with h0 | h0
  · subst h0
    refine ⟨[], by simp, fun v hv => (by cases hv), by simpa using EA.nil, ?_, rfl⟩
    cases ao with
    | none => rfl
    | some q => simp [Builtin.firstCells, loadCells, loadCellsFrom]
  · obtain ⟨b, ofs, rfl, h4⟩ := h3 (by omega)
    obtain ⟨news, g1, g2, g3, g4⟩ := src_cells (h4.take n)
    rw [hl] at g1
    refine ⟨news, g1, g3, g4, ?_, rfl⟩
    have := loadCellsFrom_run (P := P) (w := w) (b := b) (off := ofs) news 0 #[] (fun j hj => by rw [Nat.add_zero, g2 j hj])
    simp only [Builtin.firstCells, loadCells]
    rw [← g1, this]; simp
theorem str_firstN {I : Nat → Prop} {w : World} {s : ByteArray} (n : Nat) (hn : n ≤ s.size) : ∃ news : List Value, news.length = n ∧ (∀ v ∈ news, v.oneCell' = true) ∧ (EA I w (.int .u8) ((bytesI s).take n) fun k => news[k]?) ∧
    (Builtin.firstCells 1 n (.string s)).run P w = .ok news.toArray w := by
  refine ⟨((bytesI s).take n).map (Value.int .u8), by simp [bytesI_len]; omega, fun v hv => ?_, fun i hi => ?_, ?_⟩
  · obtain ⟨x, _, rfl⟩ := List.mem_map.1 hv; rfl
  · have hm : ((bytesI s).take n)[i] ∈ bytesI s := List.mem_of_mem_take (List.getElem_mem hi)
    have hr : 0 ≤ ((bytesI s).take n)[i] ∧ ((bytesI s).take n)[i] ≤ 255 := by
      unfold bytesI at hm
      obtain ⟨b, _, hb⟩ := List.mem_map.1 hm
      have := b.toNat_lt
      unfold bytesI
      constructor <;> (rw [← hb]; omega)
    refine ⟨[.int .u8 ((bytesI s).take n)[i]], ⟨rfl, by simpa [inK, IntKind.min, IntKind.max, IntKind.signed, IntKind.bits] using hr⟩, fun j hj => ?_⟩
    have : j = 0 := by simp at hj; omega
    subst this
    simp only [Ty.size, Nat.mul_one, Nat.add_zero, List.getElem_cons_zero]
    rw [List.getElem?_map, List.getElem?_eq_getElem hi]; rfl
  · have e : ((s.extract 0 n).data.map fun b => Value.int .u8 b.toNat) = (((bytesI s).take n).map (Value.int .u8)).toArray := by
      apply Array.ext'
      have h := str_cut (s := s) (A := 0) (B := n) hn
      rw [List.drop_zero] at h
      rw [← h]
      simp [bytesI]
      rfl
    simp only [Builtin.firstCells]
    rw [e]; rfl
theorem copy_row {I : Nat → Prop} {w : World} {m : M} {i : Nat} {t : Ty} {x ys : List t.den} {ao : Option Addr} {off n k : Nat} {news : List Value} (hok : ObjOk I w m i (.row false t x)) (ha : k = 0 ∨ ∃ b, m.blk i = some b ∧ ao = some ⟨b, off * t.size, none⟩) (hk : k ≤ n) (hn : off + n ≤ x.length) (hy : k ≤ ys.length)
    (h1 : news.length = k * t.size) (h2 : ∀ v ∈ news, v.oneCell' = true) (h3 : EA I w t (ys.take k) fun j => news[j]?) :
    ∃ w', (match ao with | some a => storeCells a news | none => pure ()).run P w = .ok () w' ∧ Fr (fun b => m.blk i = some b) w w' ∧ (Same I w w' → ObjOk I w' m i (.row false t (x.take off ++ ys.take k ++ x.drop (off + k)))) := by
  rcases Nat.eq_zero_or_pos k with h0 | h0
  · subst h0
    have hnews : news = [] := List.eq_nil_of_length_eq_zero (by simpa using h1)
    subst hnews
    refine ⟨w, by cases ao <;> rfl, Fr.refl _ _, fun _ => ?_⟩
    simpa using hok
  · obtain ⟨b, hb, rfl⟩ := ha.resolve_left (by omega)
    obtain ⟨q1, q2, q3, q4, q5⟩ := hok
    rcases q5 with ⟨q5, _⟩ | ⟨b', cs, T, fz, q5, q6, q7, q8, q9⟩
    · rw [hb] at q5; cases q5
    · rw [hb] at q5; cases q5
      have q9 : EA I w t x fun k => cs[k]? := q9
      have hcs : cs.toList.length = cs.size := Array.length_toList
      have hfit : (off + k) * t.size ≤ cs.size := by rw [q8]; exact Nat.mul_le_mul_right _ (by omega)
      rw [Nat.add_mul] at hfit
      obtain ⟨w', r1, r2, r3, r4, r5, r6, r7⟩ := storeCells_run (P := P) news 0 (off * t.size) w cs q6 q7 (by omega) h2
      have hsize := seg_size cs news (off * t.size) (by omega)
      have hget : ∀ j, ((cs.toList.take (off * t.size + 0) ++ news ++ cs.toList.drop (off * t.size + 0 + news.length)).toArray)[j]? = if j < off * t.size then cs[j]? else if j < off * t.size + news.length then news[j - off * t.size]? else cs[j]? := fun j => by
        rw [List.getElem?_toArray, Nat.add_zero, seg_get _ _ _ (by omega)]
        simp only [Array.getElem?_toList]
      have hl1 : (x.take off).length = off := by simp; omega
      have hl2 : (ys.take k).length = k := by simp; omega
      have hl3 : (x.take off ++ ys.take k).length = off + k := by rw [List.length_append, hl1, hl2]
      have hl4 : (x.take off ++ ys.take k ++ x.drop (off + k)).length = x.length := by rw [List.length_append, hl3, List.length_drop]; omega
      refine ⟨w', r1, ⟨r5, r6, r7, by omega, fun j _ hj => r4 j (fun e => hj (by rw [e]; exact hb))⟩, fun hs => ⟨q1, by rw [hl4]; exact q2, by rw [hl4]; exact q3, q4, .inr ⟨b, _, T, fz, hb, r2, by rw [hsize]; exact q7, by rw [hsize]; exact q8, ?_⟩⟩⟩
      refine EA.append (EA.append (((q9.take off).mono (fun _ h => h) hs).congr fun j hj => ?_) ((h3.mono (fun _ h => h) hs).congr fun j hj => ?_)) (((q9.drop (off + k)).mono (fun _ h => h) hs).congr fun j hj => ?_)
      · rw [hl1] at hj
        show ((cs.toList.take (off * t.size + 0) ++ news ++ cs.toList.drop (off * t.size + 0 + news.length)).toArray)[j]? = _
        rw [hget, if_pos hj]
      · rw [hl2] at hj
        show ((cs.toList.take (off * t.size + 0) ++ news ++ cs.toList.drop (off * t.size + 0 + news.length)).toArray)[(x.take off).length * t.size + j]? = _
        rw [hget, hl1, if_neg (by omega), if_pos (by omega)]; congr 1; omega
      · show ((cs.toList.take (off * t.size + 0) ++ news ++ cs.toList.drop (off * t.size + 0 + news.length)).toArray)[(x.take off ++ ys.take k).length * t.size + j]? = _
        rw [hget, hl3, Nat.add_mul, if_neg (by omega), if_neg (by omega)]
theorem copyI_rel {I : Nat → Prop} {w : World} {m : M} {k : IntKind} {ys : List Int} : ∀ (os : List Int) (j : Nat) (c : List Value), c.length = os.length → (∀ q (hq : q < os.length), c[q]? = some (.int k (if j + q < ys.length then ys.getD (j + q) 0 else os[q]))) → (∀ n ∈ os, inK k n) → (∀ n ∈ ys, inK k n) → RVL0 I w m (copyI k ys j os) c
  | [], j, c, h, _, _, _ => by
    have hc : c = [] := List.eq_nil_of_length_eq_zero (by simpa using h)
    rw [hc]; exact trivial
  | o :: r, j, c, h, hc, ho, hy => by
    cases c with
    | nil => simp at h
    | cons v c =>
      have h0 := hc 0 (by simp)
      simp only [List.getElem?_cons_zero, Nat.add_zero, Option.some.injEq, List.getElem_cons_zero] at h0
      refine ⟨⟨h0, ?_⟩, copyI_rel r (j + 1) c (by simpa using h) (fun q hq => ?_) (fun n hn => ho n (by simp [hn])) hy⟩
      · split
        · rename_i hlt
          rw [List.getD_eq_getElem?_getD, List.getElem?_eq_getElem hlt]
          exact hy _ (List.getElem_mem hlt)
        · exact ho o (by simp)
      · have := hc (q + 1) (by simp; omega)
        simp only [List.getElem?_cons_succ, List.getElem_cons_succ] at this
        rw [this, show j + (q + 1) = j + 1 + q by omega]
theorem src_ints {I : Nat → Prop} {w : World} {k : IntKind} {ys : List Int} {f : Nat → Option Value} (h : EA I w (.int k) ys f) : (∀ n ∈ ys, inK k n) ∧ ∀ j (hj : j < ys.length), f j = some (.int k ys[j]) := by
  have key : ∀ j (hj : j < ys.length), inK k ys[j] ∧ f j = some (.int k ys[j]) := fun j hj => by
    obtain ⟨es, h1, h2⟩ := h j hj
    obtain ⟨rfl, h3⟩ := h1
    have := h2 0 (by simp)
    simp only [Ty.size, Nat.mul_one, Nat.add_zero, List.getElem_cons_zero] at this
    exact ⟨h3, this⟩
  refine ⟨fun n hn => ?_, fun j hj => (key j hj).2⟩
  obtain ⟨j, hj, rfl⟩ := List.mem_iff_getElem.1 hn
  exact (key j hj).1
theorem srcK_sound {t : Ty} {st : Store} {v : AV} {K : List t.den → Prop} (ev : srcK t st v K) : v.ids0 = v.ids ∧ ∃ ys, K ys ∧
    ∀ {I : Nat → Prop} {w : World} {m : M} {σ : Sto} {cv : Value}, HRel I w m σ → (∀ i ∈ v.ids0, σ i = st.get i) → RV I w m v cv →
      ys.length ≤ maxLen ∧ (Builtin.lenOf cv).run P w = .ok ys.length w ∧ ∀ n ≤ ys.length, ∃ news : List Value, news.length = n * t.size ∧ (∀ v ∈ news, v.oneCell' = true) ∧ (EA I w t (ys.take n) fun k => news[k]?) ∧ (Builtin.firstCells t.size n cv).run P w = .ok news.toArray w := by
  unfold srcK at ev
  split at ev
  · rename_i l
    obtain ⟨rfl, ev⟩ := castK_cases ev
    refine ⟨rfl, l, ev, fun {I w m σ cv} hH ha hv => ?_⟩
    obtain ⟨s, rfl, rfl, hs⟩ := hv
    refine ⟨by rw [bytesI_len]; exact hs, by rw [bytesI_len]; rfl, fun n hn => ?_⟩
    rw [bytesI_len] at hn
    obtain ⟨news, g1, g2, g3, g4⟩ := str_firstN (P := P) (I := I) (w := w) n hn
    exact ⟨news, by simpa [Ty.size] using g1, g2, g3, g4⟩
  · obtain ⟨ys, hK, h⟩ := dataK_sound ev
    obtain ⟨d1, d2⟩ := dataK_ids ev
    refine ⟨d1, ys, hK, fun {I w m σ cv} hH ha hv => ?_⟩
    have hs := h hH ha (d2 hv)
    have hlen : ys.length ≤ maxLen := by obtain ⟨_, _, _, _, e, hl, _⟩ := hs; omega
    refine ⟨hlen, ?_, fun n hn => ?_⟩
    · obtain ⟨_, _, _, _, _, k⟩ := src_firstN (P := P) hs 0 (Nat.zero_le _); exact k
    · obtain ⟨news, g1, g2, g3, g4, _⟩ := src_firstN (P := P) hs n hn
      exact ⟨news, g1, g2, g3, g4⟩
theorem copy_mok {t : Ty} {x' y' : Opd} (hok : opOk P o.op (.copy t x' y') = true) (ev : evOp Γ (.copy t x' y') fr st nx K) : MOK P o [x', y'] fr (footL [x', y'] fr) true st nx K := by
  simp only [evOp, Store.setK_eq, forceL0_eq] at ev
  simp only [opOk] at hok
  split at hok
  · rename_i args ts ho
    simp only [Bool.and_eq_true] at hok
    obtain ⟨h1, h2⟩ := hok
    obtain ⟨x, y, rfl, hx, hy⟩ := args_two h1
    split at h2
    · rename_i tt ht
      split at h2
      · rename_i e he
        have he := slElem_of he
        simp only [Bool.and_eq_true, decide_eq_true_eq] at h2
        obtain ⟨h4, hpos⟩ := h2
        obtain ⟨i0, hi0, hsz⟩ := sizeIs_of h4
        have hex : ∀ a : Act, execOp a.eval o = (do pure (.value (← Builtin.copy_ ts o.type #[a.eval x, a.eval y]))) := fun a => by rw [run_builtin ho]; simp [builtin]
        obtain ⟨d1, ys, ev1, hd⟩ := srcK_sound (P := P) ev
        have hyF : ∀ j ∈ (y'.ev fr).ids0, j ∈ footL [x', y'] fr := fun j hj => foot_mem mem2b rfl j (by rw [← d1]; exact hj)
        have hrun : ∀ {a : Act} {w w' : World} {ao : Option Addr} {len cap : Nat} {news : List Value}, a.eval x = .slice ao len cap → (Builtin.lenOf (a.eval y)).run P w = .ok ys.length w → (Builtin.firstCells t.size (min ys.length len) (a.eval y)).run P w = .ok news.toArray w → (match ao with | some a => storeCells a news | none => pure ()).run P w = .ok () w' →
            (execOp a.eval o).run P w = .ok (.value (.int .i64 (min ys.length len : Nat))) w' := fun {a w w' ao len cap news} q1 q2 q3 q4 => by
          refine exec_v (hex a) ?_
          have q3' : (Builtin.firstCells i0.size (Nat.min ys.length len) (a.eval y)).run P w = .ok news.toArray w := by rw [hsz]; exact q3
          cases ao with
          | none =>
            have q4' : w = w' := by cases q4; rfl
            subst q4'
            simp [Builtin.copy_, ht, q1, run_underlying he, q2, run_size hi0, q3', goInt]
          | some ad =>
            have q4' : (storeCells ad news).run P w = .ok () w' := q4
            simp [Builtin.copy_, ht, q1, run_underlying he, q2, run_size hi0, q3', q4', goInt]
        split at ev1
        · -- a whole row
          rename_i i hb
          split at ev1
          · rename_i t' x0 hl
            obtain ⟨rfl, ev2⟩ := castK_cases ev1
            refine mok_of (mok_write (ob := .row false t' x0) (ob' := .row false t' (ys.take x0.length ++ x0.drop ys.length)) hl rfl rfl (foot_mem mem2a hb i (by simp [AV.ids, AV.ids1, AV.ids0])) rfl ev2 fun {I w m a σ} _ hf hH ha => ?_)
            have hi : σ i = some (.row false t' x0) := by rw [ha i (foot_mem mem2a hb i (by simp [AV.ids, AV.ids1, AV.ids0])), hl]
            have hv := hf.rv mem2a hx; rw [hb] at hv
            obtain ⟨ao, len, cap, e1, hO⟩ := hv
            have hok := hH.obj i _ hi
            obtain ⟨l1, l2, l3, l4, l5⟩ := ro_lies hok hO
            obtain ⟨g0, g1, g2⟩ := hd hH (fun j hj => ha j (hyF j hj)) (hf.rv mem2b hy)
            obtain ⟨news, n1, n2, n3, n4⟩ := g2 (min ys.length len) (Nat.min_le_left _ _)
            obtain ⟨_, _, _, _, _, h6⟩ := hO
            obtain ⟨w', r1, r2, r3⟩ := copy_row (P := P) (ao := ao) (off := 0) (n := len) (k := min ys.length len) (ys := ys) hok (by
              rcases h6 with ⟨_, _, h6⟩ | ⟨b, h6, h7⟩
              · left; omega
              · right; exact ⟨b, h6, by rw [Nat.zero_mul]; exact h7⟩) (Nat.min_le_right _ _) (by omega) (Nat.min_le_left _ _) n1 n2 n3
            refine ⟨.int .i64 (min ys.length len : Nat), w', .inl (hrun e1 g1 n4 r1), r2, fun hs => ?_, fun _ => by rw [l1]; exact mk_int (inK_i64 (by have := Nat.min_le_left ys.length x0.length; omega))⟩
            have := r3 hs
            have e2 : x0.take 0 ++ ys.take (min ys.length len) ++ x0.drop (0 + min ys.length len) = ys.take x0.length ++ x0.drop ys.length := by
              subst l1
              rw [List.take_zero, List.nil_append, Nat.zero_add]
              by_cases hc : ys.length ≤ x0.length
              · rw [Nat.min_eq_left hc, List.take_length, List.take_of_length_le hc]
              · rw [Nat.min_eq_right (by omega), List.drop_of_length_le (by omega : x0.length ≤ x0.length), List.drop_of_length_le (by omega)]
            rw [e2] at this; exact this
          · exact ev1.elim
        · -- a part of a row
          rename_i i off n hb
          split at ev1
          · rename_i t' x0 hl
            obtain ⟨rfl, ev2⟩ := castK_cases ev1
            obtain ⟨hn, ev3⟩ := need_both ev2
            have hn : off + n ≤ x0.length := hn
            refine mok_of (mok_write (ob := .row false t' x0) (ob' := .row false t' (x0.take off ++ ys.take n ++ x0.drop (off + min ys.length n))) hl rfl rfl (foot_mem mem2a hb i (by simp [AV.ids, AV.ids1, AV.ids0])) rfl ev3 fun {I w m a σ} _ hf hH ha => ?_)
            have hi : σ i = some (.row false t' x0) := by rw [ha i (foot_mem mem2a hb i (by simp [AV.ids, AV.ids1, AV.ids0])), hl]
            have hv := hf.rv mem2a hx; rw [hb] at hv
            obtain ⟨ao, len, cap, e1, s1, s2, s3, s4, s5, s6⟩ := hv
            subst s2
            have hok := hH.obj i _ hi
            obtain ⟨g0, g1, g2⟩ := hd hH (fun j hj => ha j (hyF j hj)) (hf.rv mem2b hy)
            obtain ⟨news, n1, n2, n3, n4⟩ := g2 (min ys.length len) (Nat.min_le_left _ _)
            have hsz' : m.sz i = t'.size := hok.1
            obtain ⟨w', r1, r2, r3⟩ := copy_row (P := P) (ao := ao) (off := off) (n := len) (k := min ys.length len) (ys := ys) hok (by
              rcases s6 with ⟨_, _, h6⟩ | ⟨b, ofs, h6, h7, h8⟩
              · left; omega
              · rcases Nat.eq_zero_or_pos len with h9 | h9
                · left; omega
                · right; exact ⟨b, h6, by rw [h7, h8 (by omega), hsz']⟩) (Nat.min_le_right _ _) hn (Nat.min_le_left _ _) n1 n2 n3
            refine ⟨.int .i64 (min ys.length len : Nat), w', .inl (hrun e1 g1 n4 r1), r2, fun hs => ?_, fun _ => mk_int (inK_i64 (by have := Nat.min_le_left ys.length len; omega))⟩
            have := r3 hs
            have e2 : ys.take (min ys.length len) = ys.take len := by
              by_cases hc : ys.length ≤ len
              · rw [Nat.min_eq_left hc, List.take_length, List.take_of_length_le hc]
              · rw [Nat.min_eq_right (by omega)]
            rw [e2] at this; exact this
          · exact ev1.elim
        · -- cells of a box
          rename_i i off n t' hb
          split at ev1
          · rename_i l hl
            cases t with
            | int k =>
              dsimp only at ev1
              split at ev1
              · rename_i heq _
                subst heq
                split at ev1
                · rename_i hle0
                  have hle := Nat.le_of_ble_eq_true hle0
                  obtain ⟨os, ev2, hos⟩ := intsK_sound ev1
                  refine mok_of (mok_write (ob := .box l) (ob' := .box (put l off (copyI k ys 0 os))) hl rfl rfl (foot_mem mem2a hb i (by simp [AV.ids, AV.ids1, AV.ids0])) rfl ev2 fun {I w m a σ} _ hf hH ha => ?_)
                  have hi : σ i = some (.box l) := by rw [ha i (foot_mem mem2a hb i (by simp [AV.ids, AV.ids1, AV.ids0])), hl]
                  have hv := hf.rv mem2a hx; rw [hb] at hv
                  obtain ⟨b, cap, q1, e1, q2, q3, q4⟩ := hv
                  obtain ⟨b', cs, T, fz, p1, p2, p3, p4⟩ := hH.obj i _ hi
                  rw [q1] at p1; cases p1
                  obtain ⟨g0, g1, g2⟩ := hd hH (fun j hj => ha j (hyF j hj)) (hf.rv mem2b hy)
                  obtain ⟨news, n1, n2, n3, n4⟩ := g2 (min ys.length n) (Nat.min_le_left _ _)
                  simp only [Ty.size, Nat.mul_one] at n1 n4
                  obtain ⟨o1, o2⟩ := hos (RVL0_take n (RVL0_drop off p4))
                  have hlen := RVL0_length p4
                  have hcs : cs.toList.length = cs.size := Array.length_toList
                  have hosl : os.length = n := by
                    have := congrArg List.length o1
                    simp only [List.length_take, List.length_drop, List.length_map] at this
                    omega
                  have hmin := Nat.min_le_right ys.length n
                  obtain ⟨w', r1, r2, r3, r4, r5, r6, r7⟩ := storeCells_run (P := P) news 0 off w cs p2 p3 (by omega) n2
                  have hsize := seg_size cs news off (by omega)
                  refine ⟨.int .i64 (min ys.length n : Nat), w', .inl (hrun e1 g1 (by simpa [Ty.size] using n4) r1), ⟨r5, r6, r7, by omega, fun j _ hj => r4 j (fun e => hj (by rw [e]; exact q1))⟩, fun hs => ⟨b, _, T, fz, q1, r2, by rw [hsize]; exact p3, ?_⟩, fun _ => mk_int (inK_i64 (by have := Nat.min_le_left ys.length n; omega))⟩
                  obtain ⟨g5, g6⟩ := src_ints n3
                  obtain ⟨full, f1, f2, f3, f4⟩ := g2 ys.length (Nat.le_refl _)
                  rw [List.take_length] at f3
                  have hys := (src_ints f3).1
                  have hseg : (cs.toList.take (off + 0) ++ news ++ cs.toList.drop (off + 0 + news.length)) = cs.toList.take off ++ (news ++ (os.map (Value.int k)).drop news.length) ++ cs.toList.drop (off + (news ++ (os.map (Value.int k)).drop news.length).length) := by
                    have hl2 : (news ++ (os.map (Value.int k)).drop news.length).length = n := by simp; omega
                    rw [hl2, ← o1, Nat.add_zero, List.append_assoc, List.append_assoc, List.append_assoc]
                    congr 2
                    rw [List.drop_take, List.drop_drop]
                    have : cs.toList.drop (off + n) = (cs.toList.drop (off + news.length)).drop (n - news.length) := by rw [List.drop_drop]; congr 1; omega
                    rw [this, List.take_append_drop]
                  simp only
                  rw [hseg]
                  refine RVL0_mono (fun _ h => h) hs m.le_refl _ _ (RVL0_put off p4 (copyI_rel os 0 _ (by simp; omega) (fun q hq => ?_) o2 hys) ?_)
                  · rw [Nat.zero_add]
                    by_cases hq2 : q < news.length
                    · rw [List.getElem?_append_left hq2, if_pos (by omega)]
                      have hql : q < (ys.take (min ys.length n)).length := by rw [List.length_take]; omega
                      have h7 : news[q]? = some (.int k ((ys.take (min ys.length n))[q]'hql)) := g6 q hql
                      rw [h7, List.getElem_take, List.getD_eq_getElem?_getD, List.getElem?_eq_getElem (by omega)]; rfl
                    · rw [List.getElem?_append_right (by omega), if_neg (by omega), List.getElem?_drop, List.getElem?_map, show news.length + (q - news.length) = q by omega, List.getElem?_eq_getElem hq]; rfl
                  · have : ∀ (os : List Int) (j : Nat), (copyI k ys j os).length = os.length := fun os => by
                      induction os with
                      | nil => intro j; rfl
                      | cons o r ih => intro j; simp [copyI, ih]
                    rw [this]; omega
                · exact ev1.elim
              · exact ev1.elim
            | _ => exact ev1.elim
          · exact ev1.elim
        · exact ev1.elim
      · cases h2
    · cases h2
  · cases hok
end ops
end Go.Eng
