/- Operations that need no memory do what the small language says. No condition. -/
import Derived.Test.YtoejpijobbcooaaDoorEEqs
namespace Go.Eng
set_option linter.unusedVariables false
set_option linter.unusedSimpArgs false
open Go.RowKit
section ops
variable {P : Program} {Γ : Env} {o : Oper} {io : IOp} {fr : Frame} {st : Store} {nx : Nat} {K : AV → Store → Nat → Prop}
theorem pok {L : List Opd} {K' : AV → Prop} {v : AV} (hK : K' v) (h : ∀ {I : Nat → Prop} {w : World} {m : M} {a : Act}, FOn L fr I w m a → ∃ S : Sem Value, execOp a.eval o = (do pure (.value (← S))) ∧ ∃ cv, RV I w m v cv ∧ S.run P w = .ok cv w) : POK P o L fr K' :=
  ⟨v, hK, fun hf => let ⟨_, he, cv, hv, hr⟩ := h hf; ⟨cv, hv, exec_v he hr⟩⟩
theorem args_two {args : Array Operand} {x' y' : Opd} (h : opdsOk args.toList [x', y'] = true) : ∃ x y, args = #[x, y] ∧ opdOk x x' = true ∧ opdOk y y' = true := by
  obtain ⟨l⟩ := args
  match l, h with
  | [x, y], h => simp only [opdsOk, Bool.and_eq_true] at h; exact ⟨x, y, rfl, h.1, h.2.1⟩
  | [], h => cases h
  | [_], h => simp [opdsOk] at h
  | _ :: _ :: _ :: _, h => simp [opdsOk] at h
theorem args_one {args : Array Operand} {x' : Opd} (h : opdsOk args.toList [x'] = true) : ∃ x, args = #[x] ∧ opdOk x x' = true := by
  obtain ⟨l⟩ := args
  match l, h with
  | [x], h => simp only [opdsOk, Bool.and_eq_true] at h; exact ⟨x, rfl, h.1⟩
  | [], h => cases h
  | _ :: _ :: _, h => simp [opdsOk] at h
theorem mem1 {x : Opd} : x ∈ [x] := by simp
theorem mem2a {x y : Opd} : x ∈ [x, y] := by simp
theorem mem2b {x y : Opd} : y ∈ [x, y] := by simp
theorem mov_pok {x' : Opd} (hok : opOk P o.op (.mov x') = true) (ev : evOp Γ (.mov x') fr st nx K) : POK P o [x'] fr (fun v => K v st nx) := by
  simp only [evOp, force_eq] at ev
  simp only [opOk] at hok
  split at hok
  · rename_i x ho
    refine ⟨_, ev, fun {I w m a} hf => ⟨a.eval x, hf.rv mem1 hok, ?_⟩⟩
    unfold execOp; rw [ho]; rfl
  · rename_i x ho
    refine ⟨_, ev, fun {I w m a} hf => ⟨a.eval x, hf.rv mem1 hok, ?_⟩⟩
    unfold execOp; rw [ho]; rfl
  · cases hok
theorem bin_pok {op : BinOp} {x' y' : Opd} (hok : opOk P o.op (.bin op x' y') = true) (ev : evOp Γ (.bin op x' y') fr st nx K) : POK P o [x', y'] fr (fun v => K v st nx) := by
  simp only [evOp] at ev
  simp only [opOk] at hok
  split at hok
  · rename_i op1 xt x y yt ho
    simp only [Bool.and_eq_true, beq_iff_eq] at hok
    obtain ⟨⟨rfl, h1⟩, h2⟩ := hok
    obtain ⟨v, hK, h⟩ := bin_sound ev
    exact pok hK fun {I w m a} hf => ⟨_, by unfold execOp; rw [ho], h (hf.rv mem2a h1) (hf.rv mem2b h2)⟩
  · cases hok
theorem eqb_pok {neg : Bool} {x' y' : Opd} (hok : opOk P o.op (.eqb neg x' y') = true) (ev : evOp Γ (.eqb neg x' y') fr st nx K) : POK P o [x', y'] fr (fun v => K v st nx) := by
  simp only [evOp] at ev
  simp only [opOk] at hok
  split at hok
  · rename_i op1 xt x y yt ho
    simp only [Bool.and_eq_true, beq_iff_eq] at hok
    obtain ⟨⟨⟨rfl, h1⟩, h2⟩, h3⟩ := hok
    split at ev
    · rename_i p q ex ey
      refine pok ev fun {I w m a} hf => ⟨_, by unfold execOp; rw [ho], _, mk_bool, ?_⟩
      have hx := rv_toB (hf.rv mem2a h1) ex
      have hy := rv_toB (hf.rv mem2b h2) ey
      exact eq_run (.inl ⟨p, q, hx, hy⟩) (by rw [hx, hy]; exact equalIn_bool (d := 9999) (isBool_of h3))
    · exact ev.elim
  · cases hok
theorem eqs_pok {neg : Bool} {ks : List Leaf} {x' y' : Opd} (hok : opOk P o.op (.eqs neg ks x' y') = true) (ev : evOp Γ (.eqs neg ks x' y') fr st nx K) : POK P o [x', y'] fr (fun v => K v st nx) := by
  simp only [evOp] at ev
  simp only [opOk] at hok
  split at hok
  · rename_i op1 xt x y yt ho
    simp only [Bool.and_eq_true, beq_iff_eq, Bool.not_eq_true'] at hok
    obtain ⟨⟨⟨⟨⟨⟨rfl, h1⟩, h2⟩, h3⟩, h4⟩, h5⟩, h6⟩ := hok
    split at ev
    · rename_i l l' ex ey
      obtain ⟨b, hK, hb⟩ := eqCK_cases ev
      refine pok hK fun {I w m a} hf => ⟨_, by unfold execOp; rw [ho], _, mk_bool, ?_⟩
      have hx := hf.rv mem2a h1; rw [ex] at hx
      have hy := hf.rv mem2b h2; rw [ey] at hy
      obtain ⟨cs, e1, hx⟩ := hx
      obtain ⟨cs', e2, hy⟩ := hy
      obtain ⟨g1, g2, g3⟩ := hb hx hy
      rw [e1, e2]
      exact eqs_run h3 h4 h5 h6 g1 g2 g3
    · exact ev.elim
  · cases hok
theorem eqp_pok {neg : Bool} {x' y' : Opd} (hok : opOk P o.op (.eqp neg x' y') = true) (ev : evOp Γ (.eqp neg x' y') fr st nx K) : POK P o [x', y'] fr (fun v => K v st nx) := by
  simp only [evOp] at ev
  simp only [opOk] at hok
  split at hok
  · rename_i op1 xt x y yt ho
    simp only [Bool.and_eq_true, beq_iff_eq] at hok
    obtain ⟨⟨⟨rfl, h1⟩, h2⟩, h3⟩ := hok
    obtain ⟨e, h3⟩ := isPtr_of h3
    obtain ⟨v, hK, h⟩ := eqp_sound ev
    exact pok hK fun {I w m a} hf => ⟨_, by unfold execOp; rw [ho], h h3 (hf.rv mem2a h1) (hf.rv mem2b h2)⟩
  · cases hok
theorem eqn_pok {neg : Bool} {x' y' : Opd} (hok : opOk P o.op (.eqn neg x' y') = true) (ev : evOp Γ (.eqn neg x' y') fr st nx K) : POK P o [x', y'] fr (fun v => K v st nx) := by
  simp only [evOp] at ev
  simp only [opOk] at hok
  split at hok
  · rename_i op1 xt x y yt ho
    simp only [Bool.and_eq_true, beq_iff_eq] at hok
    obtain ⟨⟨⟨rfl, h1⟩, h2⟩, h3⟩ := hok
    obtain ⟨k, e, h3⟩ := isMap_of h3
    split at ev
    · rename_i hx hy
      refine pok ev fun {I w m a} hf => ⟨_, by unfold execOp; rw [ho], .bool (!neg), mk_kb, ?_⟩
      have h4 := hf.rv mem2a h1
      have h5 := hf.rv mem2b h2
      rw [hx] at h4; rw [hy] at h5
      have h4 : a.eval x = .map none := h4
      have h5 : a.eval y = .map none := h5
      rw [eq_run (r := true) (.inr (.inr (.inl ⟨_, _, h4, h5⟩))) (by rw [h4, h5]; exact equalIn_map (d := 9999) h3 (.inl rfl))]
      cases neg <;> rfl
    · rename_i hx hy
      refine pok ev fun {I w m a} hf => ⟨_, by unfold execOp; rw [ho], .bool neg, mk_kb, ?_⟩
      have h4 := hf.rv mem2a h1
      have h5 := hf.rv mem2b h2
      rw [hx] at h4; rw [hy] at h5
      obtain ⟨b, _, h4, _⟩ := h4
      have h5 : a.eval y = .map none := h5
      rw [eq_run (r := false) (.inr (.inr (.inl ⟨_, _, h4, h5⟩))) (by rw [h4, h5]; exact equalIn_map (d := 9999) h3 (.inr rfl))]
      cases neg <;> rfl
    · exact ev.elim
  · cases hok
theorem un_pok {op : UnOp} {x' : Opd} (hok : opOk P o.op (.un op x') = true) (ev : evOp Γ (.un op x') fr st nx K) : POK P o [x'] fr (fun v => K v st nx) := by
  simp only [evOp] at ev
  simp only [opOk] at hok
  split at hok
  · rename_i op1 xt x ho
    simp only [Bool.and_eq_true, beq_iff_eq] at hok
    obtain ⟨rfl, h1⟩ := hok
    obtain ⟨v, hK, h⟩ := un_sound ev
    exact pok hK fun {I w m a} hf => ⟨_, by unfold execOp; rw [ho], h (hf.rv mem1 h1)⟩
  · cases hok
theorem conv_sound {k : IntKind} {src dst : TypeId} {d : TypeDesc} {j : IntKind} {n : Int} {w : World} (hs : P.underlying src = some d) (ht : P.underlying dst = some (.int k)) :
    (convert src dst (.int j n)).run P w = .ok (.int k (k.wrap n)) w := by
  simp [convert, run_underlying ht, run_underlying hs]
  cases d <;> simp [Conv.intToInt]
theorem conv_pok {k : IntKind} {x' : Opd} (hok : opOk P o.op (.conv k x') = true) (ev : evOp Γ (.conv k x') fr st nx K) : POK P o [x'] fr (fun v => K v st nx) := by
  simp only [evOp] at ev
  simp only [opOk] at hok
  split at hok
  · rename_i src dst x ho
    simp only [Bool.and_eq_true] at hok
    obtain ⟨⟨h1, h2⟩, h3⟩ := hok
    split at h3
    · rename_i hd
      simp only [beq_iff_eq] at h3; subst h3
      obtain ⟨d, hd'⟩ := Option.isSome_iff_exists.1 h2
      split at ev
      · rename_i j n hb
        refine pok (ari_cases ev) fun {I w m a} hf => ⟨convert src dst (a.eval x), by unfold execOp; rw [ho], _, mk_int (wrap_inK _ _), ?_⟩
        have hv := hf.rv mem1 h1
        rw [hb] at hv
        rw [(rv_int hv).1]; exact conv_sound hd' hd
      · exact ev.elim
    · cases h3
  · cases hok
theorem pick_pok {c' x' y' : Opd} (hok : opOk P o.op (.pick c' x' y') = true) (ev : evOp Γ (.pick c' x' y') fr st nx K) : POK P o [c', x', y'] fr (fun v => K v st nx) := by
  simp only [evOp, force_eq] at ev
  simp only [opOk] at hok
  split at hok
  · rename_i c x y ho
    simp only [Bool.and_eq_true] at hok
    obtain ⟨⟨h1, h2⟩, h3⟩ := hok
    have key : ∀ (a : Act) b, a.eval c = .bool b → execOp a.eval o = (do pure (.value (← (do pure (if ← asBool (.bool b) then a.eval x else a.eval y))))) := fun a b h => by
      unfold execOp; rw [ho]; simp [h, asBool]
    have fin : ∀ (b : Bool) (v : AV), K v st nx → (∀ {I : Nat → Prop} {w : World} {m : M} {a : Act}, FOn [c', x', y'] fr I w m a → a.eval c = .bool b ∧ RV I w m v (if b then a.eval x else a.eval y)) → POK P o [c', x', y'] fr (fun v => K v st nx) := fun b v hK h =>
      pok hK fun {I w m a} hf => ⟨_, key a b (h hf).1, _, (h hf).2, by cases b <;> simp [asBool]⟩
    split at ev
    · rename_i b hb
      rcases cnd_cases ev with ⟨rfl, h⟩ | ⟨rfl, h⟩
      · refine fin true _ h fun {I w m a} hf => ⟨?_, hf.rv (by simp) h2⟩
        have hv := hf.rv (y := c') (by simp) h1; rw [hb] at hv; exact hv
      · refine fin false _ h fun {I w m a} hf => ⟨?_, hf.rv (by simp) h3⟩
        have hv := hf.rv (y := c') (by simp) h1; rw [hb] at hv; exact hv
    · rename_i b hb
      split at ev
      · refine fin true _ ev fun {I w m a} hf => ⟨?_, hf.rv (by simp) h2⟩
        have hv := hf.rv (y := c') (by simp) h1; rw [hb] at hv; exact hv
      · refine fin false _ ev fun {I w m a} hf => ⟨?_, hf.rv (by simp) h3⟩
        have hv := hf.rv (y := c') (by simp) h1; rw [hb] at hv; exact hv
    · exact ev.elim
  · cases hok
theorem len_string {t : TypeId} {ts : Array TypeId} {ty : TypeId} {s : ByteArray} {w : World} (h0 : ts[0]? = some t) (ht : P.underlying t = some .string) :
    (Builtin.len_ ts ty #[.string s]).run P w = .ok (.int .i64 s.size) w := by
  simp [Builtin.len_, h0, run_underlying ht, goInt]
theorem slen_pok {x' : Opd} (hok : opOk P o.op (.slen x') = true) (ev : evOp Γ (.slen x') fr st nx K) : POK P o [x'] fr (fun v => K v st nx) := by
  simp only [evOp] at ev
  simp only [opOk] at hok
  split at hok
  · rename_i args ts ho
    simp only [Bool.and_eq_true] at hok
    obtain ⟨h1, h2⟩ := hok
    obtain ⟨x, rfl, hx⟩ := args_one h1
    split at h2
    · rename_i t ht
      split at ev
      · rename_i l hb
        refine pok ev fun {I w m a} hf => ⟨Builtin.len_ ts o.type #[a.eval x], by rw [run_builtin ho]; simp [builtin], ?_⟩
        have hv := hf.rv mem1 hx
        rw [hb] at hv
        obtain ⟨s, e1, rfl, h3⟩ := hv
        rw [bytesI_len]
        exact ⟨_, mk_int (inK_i64 h3), by rw [e1]; exact len_string ht (isStr_of h2)⟩
      · exact ev.elim
    · cases h2
  · cases hok
theorem minmax_sound {mx : Bool} {ts : Array TypeId} {ty : TypeId} {k : IntKind} {p q : Int} {w : World} :
    (if mx then Builtin.max_ ts ty #[.int k p, .int k q] else Builtin.min_ ts ty #[.int k p, .int k q]).run P w =
      .ok (.int k (match mx with | true => if q > p then q else p | false => if q < p then q else p)) w := by
  cases mx <;> simp [Builtin.max_, Builtin.min_, Builtin.max2, Builtin.min2]
theorem minmax_pok {mx : Bool} {x' y' : Opd} (hok : opOk P o.op (.minmax mx x' y') = true) (ev : evOp Γ (.minmax mx x' y') fr st nx K) : POK P o [x', y'] fr (fun v => K v st nx) := by
  simp only [evOp] at ev
  simp only [opOk] at hok
  split at hok
  · rename_i b args ts ho
    simp only [Bool.and_eq_true, beq_iff_eq] at hok
    obtain ⟨rfl, h1⟩ := hok
    obtain ⟨x, y, rfl, h2, h3⟩ := args_two h1
    obtain ⟨k, p, q, hx, hy, hK⟩ := ints2_cases ev
    refine pok hK fun {I w m a} hf => ⟨(if mx then Builtin.max_ ts o.type #[a.eval x, a.eval y] else Builtin.min_ ts o.type #[a.eval x, a.eval y] : Sem Value), by rw [run_builtin ho]; cases mx <;> simp [builtin], ?_⟩
    have hv := hf.rv mem2a h2; rw [hx] at hv
    have hu := hf.rv mem2b h3; rw [hy] at hu
    refine ⟨_, mk_int ?_, by rw [(rv_int hv).1, (rv_int hu).1]; exact minmax_sound⟩
    have := (rv_int hv).2; have := (rv_int hu).2
    cases mx <;> dsimp only <;> split <;> assumption
  · cases hok
theorem fieldAddr_pok {off : Nat} {x' : Opd} (hok : opOk P o.op (.fieldAddr off x') = true) (ev : evOp Γ (.fieldAddr off x') fr st nx K) : POK P o [x'] fr (fun v => K v st nx) := by
  simp only [evOp] at ev
  simp only [opOk] at hok
  split at hok
  · rename_i s x f ho
    simp only [Bool.and_eq_true] at hok
    obtain ⟨hx, h2⟩ := hok
    split at h2
    · rename_i fs hd
      split at h2
      · rename_i d hfd
        simp only [Bool.and_eq_true, beq_iff_eq] at h2
        obtain ⟨rfl, h3⟩ := h2
        split at h3
        · rename_i i hi
          have h4 : i.size ≠ 0 := by simpa using h3
          have hrun : ∀ {w : World} {v : Value} b off, v = .pointer (some ⟨b, off, none⟩) → (Instr.fieldAt s v f).run P w = .ok (.pointer (some ⟨b, off + d.offset, none⟩)) w := fun {w v} b off e => by
            simp [Instr.fieldAt, run_underlying hd, hfd, e, Instr.sureAddr, fieldPlace, run_size hi, h4, addr_add]
          split at ev
          · rename_i j off hb
            refine pok ev fun {I w m a} hf => ⟨Instr.fieldAt s (a.eval x) f, by unfold execOp; rw [ho], ?_⟩
            have hv := hf.rv mem1 hx; rw [hb] at hv
            obtain ⟨b, h5, h6, h7⟩ := hv
            exact ⟨_, ⟨b, h5, rfl, h7⟩, hrun _ _ h6⟩
          · rename_i t y j off hb
            refine pok ev fun {I w m a} hf => ⟨Instr.fieldAt s (a.eval x) f, by unfold execOp; rw [ho], ?_⟩
            have hv := hf.rv mem1 hx; rw [hb] at hv
            obtain ⟨b, ofs, e1, h5⟩ := hv
            exact ⟨_, ⟨b, ofs, rfl, h5⟩, by rw [hrun _ _ e1, Nat.add_assoc]⟩
          · rename_i j i off hb
            refine pok ev fun {I w m a} hf => ⟨Instr.fieldAt s (a.eval x) f, by unfold execOp; rw [ho], ?_⟩
            have hv := hf.rv mem1 hx; rw [hb] at hv
            obtain ⟨b, h5, h6, h7⟩ := hv
            exact ⟨_, ⟨b, h5, rfl, h7⟩, by rw [hrun _ _ h6, Nat.add_assoc]⟩
          · exact ev.elim
        · cases h3
      · cases h2
    · cases h2
  · cases hok
theorem indexArr_pok {size k : Nat} {x' y' : Opd} (hok : opOk P o.op (.indexArr size k x' y') = true) (ev : evOp Γ (.indexArr size k x' y') fr st nx K) : POK P o [x', y'] fr (fun v => K v st nx) := by
  simp only [evOp] at ev
  simp only [opOk] at hok
  split at hok
  · rename_i t x y ho
    simp only [Bool.and_eq_true] at hok
    obtain ⟨⟨hx, hy⟩, h3⟩ := hok
    split at h3
    · rename_i k' e hd
      simp only [Bool.and_eq_true, beq_iff_eq] at h3
      obtain ⟨rfl, h3⟩ := h3
      obtain ⟨i, hi, hn⟩ := sizeIs_of h3
      have hrun : ∀ {w : World} {u v : Value} b off j n, u = .pointer (some ⟨b, off, none⟩) → v = .int j n → 0 ≤ n → n < (k' : Int) →
          (Instr.indexAt t u v).run P w = .ok (.pointer (some ⟨b, off + n.toNat * size, none⟩)) w := fun {w u v} b off j n e e' h0 h1' => by
        simp [Instr.indexAt, e, e', asIntOf, run_underlying hd, Instr.sureAddr, h0, h1', run_size hi, addr_add, hn]
      split at ev
      · rename_i j off k n hb' hb
        obtain ⟨⟨h0, hlt⟩, hK⟩ := need_both ev
        refine pok hK fun {I w m a} hf => ⟨Instr.indexAt t (a.eval x) (a.eval y), by unfold execOp; rw [ho], ?_⟩
        have hv := hf.rv mem2a hx; rw [hb'] at hv
        have hu := hf.rv mem2b hy; rw [hb] at hu
        obtain ⟨b, h5, h6, h7⟩ := hv
        exact ⟨_, ⟨b, h5, rfl, h7⟩, hrun _ _ _ _ h6 (rv_int hu).1 h0 hlt⟩
      · rename_i ty y' j off k n hb' hb
        obtain ⟨⟨h0, hlt⟩, hK⟩ := need_both ev
        refine pok hK fun {I w m a} hf => ⟨Instr.indexAt t (a.eval x) (a.eval y), by unfold execOp; rw [ho], ?_⟩
        have hv := hf.rv mem2a hx; rw [hb'] at hv
        have hu := hf.rv mem2b hy; rw [hb] at hu
        obtain ⟨b, ofs, e1, h5⟩ := hv
        exact ⟨_, ⟨b, ofs, rfl, h5⟩, by rw [hrun _ _ _ _ e1 (rv_int hu).1 h0 hlt, Nat.add_assoc]⟩
      · rename_i q j off k n hb' hb
        obtain ⟨⟨h0, hlt⟩, hK⟩ := need_both ev
        refine pok hK fun {I w m a} hf => ⟨Instr.indexAt t (a.eval x) (a.eval y), by unfold execOp; rw [ho], ?_⟩
        have hv := hf.rv mem2a hx; rw [hb'] at hv
        have hu := hf.rv mem2b hy; rw [hb] at hu
        obtain ⟨b, h5, h6, h7⟩ := hv
        exact ⟨_, ⟨b, h5, rfl, h7⟩, by rw [hrun _ _ _ _ h6 (rv_int hu).1 h0 hlt, Nat.add_assoc]⟩
      · exact ev.elim
    · cases h3
  · cases hok
theorem field_pok {n : Option Nat} {off : Nat} {x' : Opd} (hok : opOk P o.op (.field n off x') = true) (ev : evOp Γ (.field n off x') fr st nx K) : POK P o [x'] fr (fun v => K v st nx) := by
  simp only [evOp] at ev
  simp only [opOk] at hok
  split at hok
  · rename_i s x f ho
    simp only [Bool.and_eq_true] at hok
    obtain ⟨hx, h2⟩ := hok
    split at h2
    · rename_i fs hd
      split at h2
      · rename_i d hfd
        simp only [Bool.and_eq_true, beq_iff_eq] at h2
        obtain ⟨rfl, h3⟩ := h2
        split at ev
        · rename_i l hb
          obtain ⟨v, hK, h⟩ := part_sound ev
          refine pok hK fun {I w m a} hf => ⟨Instr.field s (a.eval x) f, by unfold execOp; rw [ho], ?_⟩
          have hv := hf.rv mem1 hx; rw [hb] at hv
          obtain ⟨cs, e1, h4⟩ := hv
          obtain ⟨cv, h5, h6⟩ := h h3 h4
          exact ⟨cv, h5, by simp [Instr.field, run_underlying hd, hfd, e1, asAgg, h6]⟩
        · exact ev.elim
      · cases h2
    · cases h2
  · cases hok
theorem index_pok {n : Option Nat} {size k : Nat} {x' y' : Opd} (hok : opOk P o.op (.index n size k x' y') = true) (ev : evOp Γ (.index n size k x' y') fr st nx K) : POK P o [x', y'] fr (fun v => K v st nx) := by
  simp only [evOp] at ev
  simp only [opOk] at hok
  split at hok
  · rename_i t x y ho
    simp only [Bool.and_eq_true] at hok
    obtain ⟨⟨hx, hy⟩, h3⟩ := hok
    split at h3
    · rename_i k' e hd
      simp only [Bool.and_eq_true, beq_iff_eq] at h3
      obtain ⟨⟨rfl, h3⟩, h4⟩ := h3
      obtain ⟨i, hi, hn⟩ := sizeIs_of h3
      split at ev
      · rename_i l j q hb' hb
        obtain ⟨⟨h0, hlt⟩, hK⟩ := need_both ev
        obtain ⟨v, hK, h⟩ := part_sound hK
        refine pok hK fun {I w m a} hf => ⟨Instr.index t (a.eval x) (a.eval y), by unfold execOp; rw [ho], ?_⟩
        have hv := hf.rv mem2a hx; rw [hb'] at hv
        have hu := hf.rv mem2b hy; rw [hb] at hu
        obtain ⟨cs, e1, h5⟩ := hv
        obtain ⟨cv, h7, h8⟩ := h h4 h5
        exact ⟨cv, h7, by simp [Instr.index, (rv_int hu).1, asIntOf, run_underlying hd, e1, h0, hlt, run_size hi, hn, h8]⟩
      · exact ev.elim
    · cases h3
  · cases hok
theorem sindex_pok {x' y' : Opd} (hok : opOk P o.op (.sindex x' y') = true) (ev : evOp Γ (.sindex x' y') fr st nx K) : POK P o [x', y'] fr (fun v => K v st nx) := by
  simp only [evOp] at ev
  simp only [opOk] at hok
  split at hok
  · rename_i t x y ho
    simp only [Bool.and_eq_true] at hok
    obtain ⟨⟨hx, hy⟩, h3⟩ := hok
    have h3 := isStr_of h3
    split at ev
    · rename_i l j q hb' hb
      obtain ⟨⟨h0, hlt⟩, hK⟩ := need_both ev
      refine pok hK fun {I w m a} hf => ⟨Instr.index t (a.eval x) (a.eval y), by unfold execOp; rw [ho], ?_⟩
      have hv := hf.rv mem2a hx; rw [hb'] at hv
      have hu := hf.rv mem2b hy; rw [hb] at hu
      obtain ⟨s, e1, rfl, _⟩ := hv
      rw [bytesI_len] at hlt
      have hq : q.toNat < s.size := by omega
      have hg : (bytesI s).getD q.toNat 0 = ((s[q.toNat]).toNat : Int) := by
        rw [List.getD_eq_getElem?_getD, List.getElem?_eq_getElem (by rw [bytesI_len]; omega)]
        simp only [Option.getD_some, bytesI, List.getElem_map]; rfl
      rw [hg]
      refine ⟨.int .u8 ((s[q.toNat]).toNat : Int), mk_int ?_, ?_⟩
      · have := (s[q.toNat]).toNat_lt
        simp only [inK, IntKind.min, IntKind.max, IntKind.signed, IntKind.bits, Bool.false_eq_true, if_false]
        constructor <;> simp <;> omega
      · simp [Instr.index, (rv_int hu).1, asIntOf, run_underlying h3, e1, h0, hq]
    · exact ev.elim
  · cases hok
theorem intsK_sound {k : IntKind} : ∀ {l : List AV} {K : List Int → Prop}, intsK k l K → ∃ ns, K ns ∧ ∀ {I : Nat → Prop} {w : World} {m : M} {r : List Value}, RVL0 I w m l r → r = ns.map (Value.int k) ∧ ∀ n ∈ ns, inK k n
  | [], K, h => ⟨[], h, fun {I w m r} hr => by cases r with | nil => exact ⟨rfl, fun n h => by cases h⟩ | cons => exact hr.elim⟩
  | .int k' n :: l, K, h => by
    unfold intsK at h
    split at h
    · rename_i hk _
      subst hk
      obtain ⟨ns, h1, h2⟩ := intsK_sound h
      refine ⟨_, h1, fun {I w m r} hr => ?_⟩
      cases r with
      | nil => exact hr.elim
      | cons v r =>
        obtain ⟨h3, h4⟩ := h2 hr.2
        obtain ⟨rfl, hn⟩ := hr.1
        refine ⟨by rw [h3]; rfl, fun n' hn' => ?_⟩
        cases hn' with
        | head => exact hn
        | tail _ h => exact h4 _ h
    · exact h.elim
  | .undef :: _, _, h | .skp :: _, _, h | .bool _ :: _, _, h | .kb _ :: _, _, h | .str _ :: _, _, h | .nilp :: _, _, h | .nilm :: _, _, h | .nils :: _, _, h | .ptr _ _ :: _, _, h | .imm _ _ :: _, _, h | .iptr _ _ _ _ :: _, _, h | .own _ :: _, _, h | .view _ _ _ :: _, _, h
  | .rptr _ _ _ :: _, _, h | .mapv _ :: _, _, h | .bview _ _ _ _ :: _, _, h | .agg _ :: _, _, h | .fn _ _ _ :: _, _, h | .tup _ :: _, _, h => h.elim
theorem strsK_sound : ∀ {l : List AV} {K : List (List Int) → Prop}, strsK l K → ∃ ns, K ns ∧ ns.length = l.length ∧ ∀ {I : Nat → Prop} {w : World} {m : M} {r : List Value}, RVL0 I w m l r → ∀ i (h : i < r.length) (h' : i < ns.length), RV0 I w m (.str ns[i]) r[i]
  | [], K, h => ⟨[], h, rfl, fun {I w m r} hr i h h' => by simp at h'⟩
  | .str s :: l, K, h => by
    unfold strsK at h
    obtain ⟨ns, h1, h2, h3⟩ := strsK_sound h
    refine ⟨_, h1, by simp [h2], fun {I w m r} hr i hi hi' => ?_⟩
    cases r with
    | nil => exact hr.elim
    | cons v r =>
      cases i with
      | zero => exact hr.1
      | succ i => exact h3 hr.2 i (by simpa using hi) (by simpa using hi')
  | .undef :: _, _, h | .skp :: _, _, h | .bool _ :: _, _, h | .kb _ :: _, _, h | .int _ _ :: _, _, h | .nilp :: _, _, h | .nilm :: _, _, h | .nils :: _, _, h | .ptr _ _ :: _, _, h | .imm _ _ :: _, _, h | .iptr _ _ _ _ :: _, _, h | .own _ :: _, _, h | .view _ _ _ :: _, _, h
  | .rptr _ _ _ :: _, _, h | .mapv _ :: _, _, h | .bview _ _ _ _ :: _, _, h | .agg _ :: _, _, h | .fn _ _ _ :: _, _, h | .tup _ :: _, _, h => h.elim
theorem pick_run {t e : TypeId} {k : Nat} {i : TypeInfo} {d : TypeDesc} {j : IntKind} {n : Int} {cs : Array Value} {cv : Value} {w : World} (h1 : P.underlying t = some (.array k e)) (h2 : P.info? e = some i) (h3 : i.size = 1) (h4 : P.underlying e = some d) (h5 : aggB d = false)
    (h0 : 0 ≤ n) (hlt : n < (k : Int)) (hc : cs[n.toNat]? = some cv) : (Instr.index t (.agg cs) (.int j n)).run P w = .ok cv w := by
  simp [Instr.index, asIntOf, run_underlying h1, h0, hlt, run_size h2, h3, part, run_isAgg h4, h5, hc]
theorem pickI_pok {kk : IntKind} {k : Nat} {x' y' : Opd} (hok : opOk P o.op (.pickI kk k x' y') = true) (ev : evOp Γ (.pickI kk k x' y') fr st nx K) : POK P o [x', y'] fr (fun v => K v st nx) := by
  simp only [evOp] at ev
  simp only [opOk] at hok
  split at hok
  · rename_i t x y ho
    simp only [Bool.and_eq_true] at hok
    obtain ⟨⟨hx, hy⟩, h3⟩ := hok
    split at h3
    · rename_i k' e hd
      simp only [Bool.and_eq_true, beq_iff_eq] at h3
      obtain ⟨⟨rfl, h3⟩, h4⟩ := h3
      obtain ⟨i, hi, hn⟩ := sizeIs_of h3
      split at h4
      · rename_i d hd'
        have h5 : aggB d = false := by simpa using h4
        split at ev
        · rename_i l q n hb' hb
          split at ev
          · rename_i hlen
            have hlen := Nat.eq_of_beq_eq_true hlen
            obtain ⟨⟨h0, hlt⟩, hK⟩ := need_both ev
            obtain ⟨ns, hK, h⟩ := intsK_sound hK
            refine pok hK fun {I w m a} hf => ⟨Instr.index t (a.eval x) (a.eval y), by unfold execOp; rw [ho], ?_⟩
            have hv := hf.rv mem2a hx; rw [hb'] at hv
            have hu := hf.rv mem2b hy; rw [hb] at hu
            obtain ⟨cs, e1, h6⟩ := hv
            obtain ⟨h8, h9⟩ := h h6
            have hl := RVL0_length h6
            have hn : n.toNat < ns.length := by
              have : cs.toList.length = ns.length := by rw [h8]; simp
              omega
            have hg : ns.getD n.toNat 0 = ns[n.toNat] := by simp [hn]
            have hc : cs[n.toNat]? = some (.int kk ns[n.toNat]) := by
              have : cs.toList[n.toNat]? = some (.int kk ns[n.toNat]) := by rw [h8]; simp [hn]
              simpa using this
            rw [hg]
            exact ⟨_, mk_int (h9 _ (List.getElem_mem hn)), by rw [e1, (rv_int hu).1]; exact pick_run hd hi (by omega) hd' h5 h0 hlt hc⟩
          · exact ev.elim
        · exact ev.elim
      · cases h4
    · cases h3
  · cases hok
theorem pickS_pok {k : Nat} {x' y' : Opd} (hok : opOk P o.op (.pickS k x' y') = true) (ev : evOp Γ (.pickS k x' y') fr st nx K) : POK P o [x', y'] fr (fun v => K v st nx) := by
  simp only [evOp] at ev
  simp only [opOk] at hok
  split at hok
  · rename_i t x y ho
    simp only [Bool.and_eq_true] at hok
    obtain ⟨⟨hx, hy⟩, h3⟩ := hok
    split at h3
    · rename_i k' e hd
      simp only [Bool.and_eq_true, beq_iff_eq] at h3
      obtain ⟨⟨rfl, h3⟩, h4⟩ := h3
      obtain ⟨i, hi, hn⟩ := sizeIs_of h3
      split at h4
      · rename_i d hd'
        have h5 : aggB d = false := by simpa using h4
        split at ev
        · rename_i l q n hb' hb
          split at ev
          · rename_i hlen
            have hlen := Nat.eq_of_beq_eq_true hlen
            obtain ⟨⟨h0, hlt⟩, hK⟩ := need_both ev
            obtain ⟨ns, hK, hnl, h⟩ := strsK_sound hK
            refine pok hK fun {I w m a} hf => ⟨Instr.index t (a.eval x) (a.eval y), by unfold execOp; rw [ho], ?_⟩
            have hv := hf.rv mem2a hx; rw [hb'] at hv
            have hu := hf.rv mem2b hy; rw [hb] at hu
            obtain ⟨cs, e1, h6⟩ := hv
            have hl := RVL0_length h6
            have hn : n.toNat < ns.length := by omega
            have hn' : n.toNat < cs.toList.length := by omega
            have hg : ns.getD n.toNat [] = ns[n.toNat] := by simp [hn]
            have hc : cs[n.toNat]? = some cs.toList[n.toNat] := by
              have : cs.toList[n.toNat]? = some cs.toList[n.toNat] := List.getElem?_eq_getElem hn'
              rw [Array.getElem?_toList] at this; exact this
            rw [hg]
            exact ⟨_, RV_0 (h h6 _ hn' hn), by rw [e1, (rv_int hu).1]; exact pick_run hd hi (by omega) hd' h5 h0 hlt hc⟩
          · exact ev.elim
        · exact ev.elim
      · cases h4
    · cases h3
  · cases hok
/-- The model lays a part as the small language does. -/
theorem fold_put (off : Nat) : ∀ (vs : List Value) (k : Nat) (cs : Array Value), off + k + vs.length ≤ cs.size →
    (vs.zipIdx k).foldl (fun cs (c, j) => cs.setIfInBounds (off + j) c) cs = (cs.toList.take (off + k) ++ vs ++ cs.toList.drop (off + k + vs.length)).toArray
  | [], k, cs, _ => by simp
  | v :: vs, k, cs, h => by
    simp only [List.length_cons] at h
    simp only [List.zipIdx_cons, List.foldl_cons]
    rw [fold_put off vs (k + 1) _ (by simp; omega)]
    have hlen : off + k < cs.toList.length := by simp; omega
    congr 1
    simp only [Array.toList_setIfInBounds, List.length_cons]
    rw [show off + (k + 1) = off + k + 1 by omega, List.take_set, List.take_succ_eq_append_getElem hlen, List.set_append_right _ _ (by simp; omega)]
    simp only [List.length_take, Nat.min_eq_left (Nat.le_of_lt hlen), Nat.sub_self, List.set_cons_zero]
    rw [List.drop_set_of_lt (by omega), show off + k + 1 + vs.length = off + k + (vs.length + 1) by omega]
    simp
theorem fill_sound {place : Nat → Option (Nat × Nat)} {I : Nat → Prop} {w : World} {m : M} {a : Act} : ∀ {parts : List (Nat × Operand)} {ps : List (Nat × Nat × Opd)} {z l : List AV} {cs : Array Value}, FOn (ps.map (·.2.2)) fr I w m a →
    partsOk place parts ps = true → RVL0 I w m z cs.toList → fill fr z ps = some l →
    ∃ cs', Instr.fill place cs (parts.map fun p => (p.1, a.eval p.2)) = some cs' ∧ RVL0 I w m l cs'.toList
  | [], [], z, l, cs, _, _, hz, hl => by
    simp only [fill, Option.some.injEq] at hl; subst hl
    exact ⟨cs, rfl, hz⟩
  | (i, x) :: r, (off, size, y) :: q, z, l, cs, hf, hp, hz, hl => by
    simp only [partsOk, Bool.and_eq_true] at hp
    obtain ⟨⟨h1, h2⟩, h3⟩ := hp
    simp only [fill] at hl
    split at hl
    · rename_i c hc
      split at hl
      · rename_i hd
        simp only [Bool.and_eq_true, decide_eq_true_eq] at hd
        have hv := RVL0_flat (hf.rv (by simp) h2) hc
        have hlv := RVL0_length hv
        have hlz := RVL0_length hz
        have hsz : (a.eval x).cells.size = c.length := by rw [hlv]; simp
        have hzs : cs.size = z.length := by rw [hlz]; simp
        split at h1
        · rename_i o n hpl
          simp only [Bool.and_eq_true, beq_iff_eq] at h1
          obtain ⟨rfl, rfl⟩ := h1
          have hput := RVL0_put o hz hv (by omega)
          have hfold := fold_put o (a.eval x).cells.toList 0 cs (by simp; omega)
          obtain ⟨cs', h4, h5⟩ := fill_sound (hf.mono (fun x hx => by simp only [List.map_cons, List.mem_cons]; exact .inr hx)) h3 (cs := ((cs.toList.take o ++ (a.eval x).cells.toList ++ cs.toList.drop (o + (a.eval x).cells.toList.length)).toArray)) (by simpa using hput) hl
          refine ⟨cs', ?_, h5⟩
          simp only [List.map_cons, Instr.fill, hpl]
          rw [if_neg (by simp only [Bool.or_eq_true, decide_eq_true_eq, bne_iff_ne, ne_eq, not_or]; constructor <;> simp <;> omega)]
          rw [← h4]
          congr 1
          rw [← Array.foldl_toList, Array.toList_zipIdx]
          simpa using hfold
        · cases h1
      · cases hl
    · cases hl
  | [], _ :: _, _, _, _, _, hp, _, _ => by cases hp
  | _ :: _, [], _, _, _, _, hp, _, _ => by cases hp
theorem lenIs_of : ∀ {l : List AV} {n : Nat}, lenIs l n = true → l.length = n
  | [], 0, _ => rfl
  | _ :: r, n + 1, h => by simp [lenIs_of (l := r) h]
  | [], _ + 1, h => by cases h
  | _ :: _, 0, h => by cases h
theorem cat_le {tot : Nat} : ∀ {ps : List (Nat × Nat × Opd)} {off : Nat} {K : List AV → Prop}, catK fr tot off ps K → off ≤ tot
  | [], off, K, ev => by
    simp only [catK] at ev
    split at ev
    · rename_i hb; rw [Nat.eq_of_beq_eq_true hb]; exact Nat.le_refl _
    · exact ev.elim
  | (o, size, x) :: q, off, K, ev => by
    simp only [catK, forceL0_eq] at ev
    split at ev
    · rename_i hb
      have := Nat.eq_of_beq_eq_true hb
      split at ev
      · split at ev
        · have := cat_le ev; omega
        · exact ev.elim
      · exact ev.elim
    · exact ev.elim
theorem cat_sound {tot : Nat} : ∀ {ps : List (Nat × Nat × Opd)} {off : Nat} {K : List AV → Prop}, catK fr tot off ps K →
    ∃ l, K l ∧ (∀ i ∈ idsL0 l, i ∈ footL (ps.map (·.2.2)) fr) ∧ ∀ {I : Nat → Prop} {w : World} {m : M} {a : Act} {place : Nat → Option (Nat × Nat)} {parts : List (Nat × Operand)} {cs : Array Value}, FOn (ps.map (·.2.2)) fr I w m a → partsOk place parts ps = true → cs.size = tot →
      ∃ cs', Instr.fill place cs (parts.map fun p => (p.1, a.eval p.2)) = some cs' ∧ cs'.size = tot ∧ cs'.toList.take off = cs.toList.take off ∧ RVL0 I w m l (cs'.toList.drop off)
  | [], off, K, ev => by
    simp only [catK] at ev
    split at ev
    · rename_i hb
      have := Nat.eq_of_beq_eq_true hb
      subst this
      refine ⟨[], ev, fun i hi => (by simp [idsL0] at hi), fun {I w m a place parts cs} hf hp hcs => ?_⟩
      cases parts with
      | nil =>
        refine ⟨cs, rfl, hcs, rfl, ?_⟩
        rw [List.drop_of_length_le (by simp; omega)]; trivial
      | cons => cases hp
    · exact ev.elim
  | (o, size, y) :: q, off, K, ev => by
    simp only [catK, forceL0_eq] at ev
    split at ev
    · rename_i hb
      have := Nat.eq_of_beq_eq_true hb
      subst this
      split at ev
      · rename_i c hc
        split at ev
        · rename_i hl
          have hl := lenIs_of hl
          obtain ⟨l, hK, hids, hrec⟩ := cat_sound ev
          have hle0 := cat_le ev
          refine ⟨c ++ l, hK, fun i hi => by
            simp only [idsL0, List.flatMap_append, List.mem_append] at hi
            simp only [List.map_cons, footL, List.flatMap_cons, List.mem_append]
            exact hi.imp (flat_ids hc i) (hids i), fun {I w m a place parts cs} hf hp hcs => ?_⟩
          cases parts with
          | nil => cases hp
          | cons ix r =>
            obtain ⟨i, x⟩ := ix
            simp only [partsOk, Bool.and_eq_true] at hp
            obtain ⟨⟨h1, h2⟩, h3⟩ := hp
            have hv := RVL0_flat (hf.rv (by simp) h2) hc
            have hlv := RVL0_length hv
            have hsz : (a.eval x).cells.size = c.length := by rw [hlv]; simp
            split at h1
            · rename_i o' n hpl
              simp only [Bool.and_eq_true, beq_iff_eq] at h1
              obtain ⟨rfl, rfl⟩ := h1
              have hle : o' + n ≤ cs.size := by rw [hcs]; exact hle0
              have hfold := fold_put o' (a.eval x).cells.toList 0 cs (by simp; omega)
              obtain ⟨cs', h5, h6, h8, h9⟩ := hrec (hf.mono (fun x hx => by simp only [List.map_cons, List.mem_cons]; exact .inr hx)) h3 (cs := ((cs.toList.take o' ++ (a.eval x).cells.toList ++ cs.toList.drop (o' + (a.eval x).cells.toList.length)).toArray)) (by simp; omega)
              refine ⟨cs', ?_, h6, ?_, ?_⟩
              · simp only [List.map_cons, Instr.fill, hpl]
                rw [if_neg (by simp only [Bool.or_eq_true, decide_eq_true_eq, bne_iff_ne, ne_eq, not_or]; constructor <;> simp <;> omega)]
                rw [← h5]
                congr 1
                rw [← Array.foldl_toList, Array.toList_zipIdx]
                simpa using hfold
              · have := congrArg (List.take o') h8
                rw [List.take_take, Nat.min_eq_left (by omega), List.take_take, Nat.min_eq_left (by omega)] at this
                rw [this]
                have e1 : (cs.toList.take o').length = o' := by simp; omega
                simp only [List.append_assoc]
                exact List.take_left' e1
              · have e2 : (cs.toList.take o').length = o' := by simp; omega
                have hd : cs'.toList.drop o' = (a.eval x).cells.toList ++ cs'.toList.drop (o' + n) := by
                  have e1 : cs'.toList = cs'.toList.take (o' + n) ++ cs'.toList.drop (o' + n) := (List.take_append_drop _ _).symm
                  have e3 : cs'.toList.take (o' + n) = cs.toList.take o' ++ (a.eval x).cells.toList := by
                    rw [h8]
                    exact List.take_left' (by simp only [List.length_append, e2]; omega)
                  rw [e3, List.append_assoc] at e1
                  have := congrArg (List.drop o') e1
                  rw [List.drop_left' e2] at this
                  exact this
                rw [hd]
                exact RVL0_append hv h9
            · cases h1
        · exact ev.elim
      · exact ev.elim
    · exact ev.elim
theorem places_run (P : Program) (w : World) : ∀ (fs : List Field), (fs.all fun f => (P.info? f.type).isSome) = true →
    (fs.mapM (fun f => do pure (f.offset, ← sizeOf f.type) : Field → Sem (Nat × Nat))).run P w = .ok (fs.map fun f => (f.offset, P.cellsOf f.type)) w
  | [], _ => rfl
  | f :: fs, h => by
    simp only [List.all_cons, Bool.and_eq_true] at h
    obtain ⟨i, hi⟩ := Option.isSome_iff_exists.1 h.1
    have hc : P.cellsOf f.type = i.size := by simp [Program.cellsOf, hi]
    rw [List.mapM_cons, Sem.run_bind, Sem.run_bind, run_size hi, Result.andThen_ok, Sem.run_pure, Result.andThen_ok, Sem.run_bind, places_run P w fs h.2]
    simp [hc]
theorem struct_run {t : TypeId} {fs : Array Field} {i : TypeInfo} {v : Value} {parts : Array (Nat × Operand)} {cs' : Array Value} {a : Act} {w : World} (hd : P.underlying t = some (.struct fs)) (hall : (fs.toList.all fun f => (P.info? f.type).isSome) = true) (hi : P.info? t = some i) (hv : i.zero = some v)
    (h1 : Instr.fill (fun i => (fs[i]?).map fun f => (f.offset, P.cellsOf f.type)) v.cells (parts.toList.map fun p => (p.1, a.eval p.2)) = some cs') : (Instr.build t (parts.map fun (i, x) => (i, a.eval x))).run P w = .ok (.agg cs') w := by
  have hpl : (fs.mapM (fun f => do pure (f.offset, ← sizeOf f.type) : Field → Sem (Nat × Nat))).run P w = .ok (fs.map fun f => (f.offset, P.cellsOf f.type)) w := by
    rw [Array.mapM_eq_mapM_toList, Sem.run_map, places_run P w fs.toList hall]
    have : (fs.toList.map fun f => (f.offset, P.cellsOf f.type)).toArray = fs.map fun f => (f.offset, P.cellsOf f.type) := Array.toList_inj.1 (by simp)
    simp only [Result.andThen_ok, this]
  have hfill : Instr.fill (fun x => (fs.map fun f => (f.offset, P.cellsOf f.type))[x]?) v.cells (parts.map fun (i, x) => (i, a.eval x)).toList = some cs' := by
    rw [← h1]; simp [Array.toList_map]
  simp only [Instr.build, Sem.run_bind, zero_run hi hv, Result.andThen_ok, run_underlying hd, hpl, hfill, Sem.run_pure]
theorem array_run {t e : TypeId} {len : Nat} {i j : TypeInfo} {v : Value} {parts : Array (Nat × Operand)} {cs' : Array Value} {a : Act} {w : World} (hd : P.underlying t = some (.array len e)) (hj : P.info? e = some j) (hi : P.info? t = some i) (hv : i.zero = some v)
    (h1 : Instr.fill (fun i => some (i * P.cellsOf e, P.cellsOf e)) v.cells (parts.toList.map fun p => (p.1, a.eval p.2)) = some cs') : (Instr.build t (parts.map fun (i, x) => (i, a.eval x))).run P w = .ok (.agg cs') w := by
  have hce : P.cellsOf e = j.size := by simp [Program.cellsOf, hj]
  have hfill : Instr.fill (fun i => some (i * j.size, j.size)) v.cells (parts.map fun (i, x) => (i, a.eval x)).toList = some cs' := by
    rw [← h1, hce]; simp [Array.toList_map]
  simp only [Instr.build, Sem.run_bind, zero_run hi hv, Result.andThen_ok, run_underlying hd, run_size hj, hfill, Sem.run_pure]
theorem build_pok {z : List AV} {ps : List (Nat × Nat × Opd)} (hok : opOk P o.op (.build z ps) = true) (ev : evOp Γ (.build z ps) fr st nx K) : POK P o (ps.map (·.2.2)) fr (fun v => K v st nx) := by
  simp only [evOp] at ev
  simp only [opOk] at hok
  split at hok
  · rename_i t parts ho
    simp only [Bool.and_eq_true] at hok
    obtain ⟨hz, hok⟩ := hok
    obtain ⟨i, v, hi, hv, hc⟩ := zeroIs_of hz
    split at ev
    · rename_i l hl
      rw [forceL0_eq] at ev
      refine pok ev fun {I w m a} hf => ⟨Instr.build t (parts.map fun (i, x) => (i, a.eval x)), by unfold execOp; rw [ho], ?_⟩
      split at hok
      · rename_i fs hd
        simp only [Bool.and_eq_true] at hok
        obtain ⟨cs', h1, h2⟩ := fill_sound hf hok.2 (consts_rv hc) hl
        exact ⟨.agg cs', ⟨cs', rfl, h2⟩, struct_run hd hok.1 hi hv h1⟩
      · rename_i len e hd
        simp only [Bool.and_eq_true] at hok
        obtain ⟨j, hj⟩ := Option.isSome_iff_exists.1 hok.1
        obtain ⟨cs', h1, h2⟩ := fill_sound hf hok.2 (consts_rv hc) hl
        exact ⟨.agg cs', ⟨cs', rfl, h2⟩, array_run hd hj hi hv h1⟩
      · cases hok
    · exact ev.elim
  · cases hok
theorem zero_size {t : TypeId} {tot : Nat} (h : (match P.info? t with | some i => (match i.zero with | some v => v.cells.size == tot | none => false) | none => false) = true) :
    ∃ i v, P.info? t = some i ∧ i.zero = some v ∧ v.cells.size = tot := by
  split at h
  · rename_i i hi
    split at h
    · rename_i v hv; exact ⟨i, v, hi, hv, by simpa using h⟩
    · cases h
  · cases h
theorem buildAll_pok {tot : Nat} {ps : List (Nat × Nat × Opd)} (hok : opOk P o.op (.buildAll tot ps) = true) (ev : evOp Γ (.buildAll tot ps) fr st nx K) : POK P o (ps.map (·.2.2)) fr (fun v => K v st nx) := by
  simp only [evOp] at ev
  simp only [opOk] at hok
  split at hok
  · rename_i t parts ho
    simp only [Bool.and_eq_true] at hok
    obtain ⟨hz, hok⟩ := hok
    obtain ⟨i, v, hi, hv, hc⟩ := zero_size hz
    obtain ⟨l, hK, _, h⟩ := cat_sound ev
    refine pok hK fun {I w m a} hf => ⟨Instr.build t (parts.map fun (i, x) => (i, a.eval x)), by unfold execOp; rw [ho], ?_⟩
    split at hok
    · rename_i fs hd
      simp only [Bool.and_eq_true] at hok
      obtain ⟨cs', h1, _, _, h2⟩ := h hf hok.2 hc
      exact ⟨.agg cs', ⟨cs', rfl, h2⟩, struct_run hd hok.1 hi hv h1⟩
    · rename_i len e hd
      simp only [Bool.and_eq_true] at hok
      obtain ⟨j, hj⟩ := Option.isSome_iff_exists.1 hok.1
      obtain ⟨cs', h1, _, _, h2⟩ := h hf hok.2 hc
      exact ⟨.agg cs', ⟨cs', rfl, h2⟩, array_run hd hj hi hv h1⟩
    · cases hok
  · cases hok
theorem natK_cases {v : AV} {K : Int → Prop} (h : natK v K) : ∃ k n, v = .int k n ∧ K n := by
  unfold natK at h
  split at h
  · exact ⟨_, _, rfl, h⟩
  · exact h.elim
/-- A bound that may be left out. -/
theorem optK_cases {d : Int} {x' : Option Opd} {K : Int → Prop} (h : optK d x' fr K) : ∃ n, K n ∧ ((x' = none ∧ n = d) ∨ ∃ y k, x' = some y ∧ y.ev fr = .int k n) := by
  unfold optK at h
  split at h
  · exact ⟨_, h, .inl ⟨rfl, rfl⟩⟩
  · rename_i y
    obtain ⟨k, n, h1, h2⟩ := natK_cases h
    exact ⟨n, h2, .inr ⟨y, k, rfl, h1⟩⟩
theorem opt_rv {L : List Opd} {I : Nat → Prop} {w : World} {m : M} {a : Act} (hf : FOn L fr I w m a) {x : Option Operand} {x' : Option Opd} (hok : optOk x x' = true) (hm : ∀ y ∈ optL x', y ∈ L) {n d : Int}
    (h : (x' = none ∧ n = d) ∨ ∃ y k, x' = some y ∧ y.ev fr = .int k n) : (x = none ∧ x' = none ∧ n = d) ∨ ∃ k y, x = some y ∧ x'.isSome = true ∧ a.eval y = .int k n := by
  rcases h with ⟨rfl, rfl⟩ | ⟨y, k, rfl, h⟩
  · cases x with
    | none => exact .inl ⟨rfl, rfl, rfl⟩
    | some _ => cases hok
  · cases x with
    | none => cases hok
    | some z =>
      have hv := hf.rv (hm y (by simp [optL])) (show opdOk z y = true from hok)
      rw [h] at hv
      exact .inr ⟨k, z, rfl, rfl, (rv_int hv).1⟩
theorem bound_run {w : World} (k : IntKind) (n y : Nat) (c : BoundsCode) (h : n ≤ y) : (Instr.sliceBound (.int k n) y c).run P w = .ok n w := by
  have h' : (n : Int) ≤ (y : Int) := by omega
  simp [Instr.sliceBound, asIntOf, h']
theorem bounds_run {w : World} {isS : Bool} {len cap A B : Nat} {lo hi : Option Value} (hlo : (lo = none ∧ A = 0) ∨ ∃ k, lo = some (.int k A)) (hhi : (hi = none ∧ B = len) ∨ ∃ k, hi = some (.int k B)) (hAB : A ≤ B) (hB : B ≤ cap) :
    (Instr.sliceBounds isS len cap lo hi none).run P w = .ok (A, B, cap) w := by
  have hb1 := bound_run (P := P) (w := w)
  rcases hlo with ⟨rfl, rfl⟩ | ⟨k, rfl⟩ <;> rcases hhi with ⟨rfl, rfl⟩ | ⟨k', rfl⟩
  · simp [Instr.sliceBounds]
  · simp [Instr.sliceBounds, hb1 k' B cap _ (by omega)]
  · simp [Instr.sliceBounds, hb1 k A B _ (by omega)]
  · simp [Instr.sliceBounds, hb1 k' B cap _ (by omega), hb1 k A B _ (by omega)]
theorem bounds3_run {w : World} {len cap A B : Nat} {lo hi mx : Option Value} (hlo : (lo = none ∧ A = 0) ∨ ∃ k, lo = some (.int k A)) (hhi : ∃ k, hi = some (.int k B)) (hmx : ∃ k, mx = some (.int k B)) (hAB : A ≤ B) (hB : B ≤ cap) :
    (Instr.sliceBounds true len cap lo hi mx).run P w = .ok (A, B, B) w := by
  have hb1 := bound_run (P := P) (w := w)
  obtain ⟨k1, rfl⟩ := hhi
  obtain ⟨k2, rfl⟩ := hmx
  rcases hlo with ⟨rfl, rfl⟩ | ⟨k, rfl⟩
  · simp [Instr.sliceBounds, hb1 k2 B cap _ (by omega), hb1 k1 B B _ (by omega)]
  · simp [Instr.sliceBounds, hb1 k2 B cap _ (by omega), hb1 k1 B B _ (by omega), hb1 k A B _ (by omega)]
theorem str_cut {s : ByteArray} {A B : Nat} (h : B ≤ s.size) : bytesI (s.extract A B) = ((bytesI s).take B).drop A := by
  unfold bytesI
  rw [← List.map_take, ← List.map_drop]
  congr 1
  rw [ByteArray.data_extract, Array.toList_extract, List.extract_eq_take_drop, List.drop_take]
theorem sslice_pok {x' : Opd} {lo' hi' : Option Opd} (hok : opOk P o.op (.sslice x' lo' hi') = true) (ev : evOp Γ (.sslice x' lo' hi') fr st nx K) : POK P o ([x'] ++ optL lo' ++ optL hi') fr (fun v => K v st nx) := by
  simp only [evOp] at ev
  simp only [opOk] at hok
  split at hok
  · rename_i t x lo hi mx ho
    simp only [Bool.and_eq_true, Option.isNone_iff_eq_none] at hok
    obtain ⟨⟨⟨⟨hx, hlo⟩, hhi⟩, rfl⟩, h5⟩ := hok
    have h5 := isStr_of h5
    split at ev
    · rename_i l hb
      obtain ⟨A, ev1, hA⟩ := optK_cases ev
      obtain ⟨B, ev2, hB⟩ := optK_cases ev1
      obtain ⟨⟨h0, hAB, hBl⟩, hK⟩ := need_both ev2
      refine pok hK fun {I w m a} hf => ⟨Instr.sliceAt t (a.eval x) (lo.map a.eval) (hi.map a.eval) none, by unfold execOp; rw [ho]; rfl, ?_⟩
      have hv := hf.rv (y := x') (by simp) hx; rw [hb] at hv
      obtain ⟨s, e1, rfl, hs⟩ := hv
      rw [bytesI_len] at hBl
      have ra := opt_rv hf hlo (fun y hy => by simp [hy]) hA
      have rb := opt_rv hf hhi (fun y hy => by simp [hy]) hB
      refine ⟨.string (s.extract A.toNat B.toNat), ⟨_, rfl, (str_cut (by omega)).symm, by rw [ByteArray.size_extract]; omega⟩, ?_⟩
      have hbr := bounds_run (P := P) (w := w) (isS := false) (len := s.size) (cap := s.size) (A := A.toNat) (B := B.toNat) (lo := lo.map a.eval) (hi := hi.map a.eval)
        (by rcases ra with ⟨rfl, _, rfl⟩ | ⟨k, y, rfl, _, h⟩
            · exact .inl ⟨rfl, rfl⟩
            · exact .inr ⟨k, by simp only [Option.map_some, h]; rw [Int.toNat_of_nonneg h0]⟩)
        (by rcases rb with ⟨rfl, _, rfl⟩ | ⟨k, y, rfl, _, h⟩
            · exact .inl ⟨rfl, by simp [bytesI_len]⟩
            · exact .inr ⟨k, by simp only [Option.map_some, h]; rw [Int.toNat_of_nonneg (by omega)]⟩) (by omega) (by omega)
      simp [Instr.sliceAt, Instr.slice, run_underlying h5, e1, hbr]
    · exact ev.elim
  · cases hok
theorem RVL1_get : ∀ {I : Nat → Prop} {w : World} {m : M} {v : AV} {t : List AV} (n : Nat) {l : List AV} {r : List Value}, RVL1 I w m l r → l.drop n = v :: t → ∃ cv, r[n]? = some cv ∧ RV1 I w m v cv
  | _, _, _, v, t, 0, l, r, h, hd => by
    cases l with
    | nil => cases hd
    | cons a l =>
      cases r with
      | nil => exact h.elim
      | cons c r => simp only [List.drop_zero, List.cons.injEq] at hd; exact ⟨c, rfl, by rw [← hd.1]; exact h.1⟩
  | _, _, _, v, t, n + 1, l, r, h, hd => by
    cases l with
    | nil => cases hd
    | cons a l =>
      cases r with
      | nil => exact h.elim
      | cons c r => exact RVL1_get n h.2 hd
theorem extract_pok {x' : Opd} {i : Nat} (hok : opOk P o.op (.extract x' i) = true) (ev : evOp Γ (.extract x' i) fr st nx K) : POK P o [x'] fr (fun v => K v st nx) := by
  simp only [evOp] at ev
  simp only [opOk] at hok
  split at hok
  · rename_i x j ho
    simp only [Bool.and_eq_true, beq_iff_eq] at hok
    obtain ⟨rfl, hx⟩ := hok
    split at ev
    · rename_i l hb
      split at ev
      · rename_i v t hd
        rw [force1_eq] at ev
        refine pok ev fun {I w m a} hf => ⟨Instr.extract (a.eval x) j, by unfold execOp; rw [ho], ?_⟩
        have hv := hf.rv mem1 hx; rw [hb] at hv
        obtain ⟨cs, e1, h1⟩ := hv
        obtain ⟨cv, h2, h3⟩ := RVL1_get j h1 hd
        have h2' : cs[j]? = some cv := by simpa using h2
        exact ⟨cv, RV_of (RV2_of h3), by simp [Instr.extract, e1, h2']⟩
      · exact ev.elim
    · exact ev.elim
  · cases hok
theorem nilck_pok {x' : Opd} (hok : opOk P o.op (.nilck x') = true) (ev : evOp Γ (.nilck x') fr st nx K) : POK P o [x'] fr (fun v => K v st nx) := by
  simp only [evOp] at ev
  simp only [opOk] at hok
  split at hok
  · rename_i x ho
    split at ev
    · rename_i i off hb
      refine ⟨_, ev, fun {I w m a} hf => ?_⟩
      have hv := hf.rv mem1 hok; rw [hb] at hv
      obtain ⟨b, h1, h2, h3⟩ := hv
      exact ⟨a.eval x, ⟨b, h1, h2, h3⟩, by unfold execOp; rw [ho]; simp [h2]⟩
    · rename_i t y i off hb
      refine ⟨_, ev, fun {I w m a} hf => ?_⟩
      have hv := hf.rv mem1 hok; rw [hb] at hv
      have hv' := hv
      obtain ⟨b, ofs, e1, _⟩ := hv'
      exact ⟨a.eval x, hv, by unfold execOp; rw [ho]; simp [e1]⟩
    · rename_i i j off hb
      refine ⟨_, ev, fun {I w m a} hf => ?_⟩
      have hv := hf.rv mem1 hok; rw [hb] at hv
      obtain ⟨b, h1, h2, h3⟩ := hv
      exact ⟨a.eval x, ⟨b, h1, h2, h3⟩, by unfold execOp; rw [ho]; simp [h2]⟩
    · exact ev.elim
  · cases hok
theorem opds_len : ∀ {xs : List Operand} {ys : List Opd}, opdsOk xs ys = true → xs.length = ys.length
  | [], [], _ => rfl
  | x :: xs, y :: ys, h => by simp only [opdsOk, Bool.and_eq_true] at h; simp [opds_len h.2]
  | [], _ :: _, h => by cases h
  | _ :: _, [], h => by cases h
theorem RV_1 {I : Nat → Prop} {w : World} {m : M} {a : AV} {v : Value} (h : RV I w m a v) (e : known a = true) : RV1 I w m a v := by
  cases a with
  | undef => cases e
  | skp => cases e
  | tup => cases e
  | fn => cases e
  | _ => exact h
def knownL (l : List AV) : Bool := allB known l
theorem opds_rv1 {L : List Opd} {I : Nat → Prop} {w : World} {m : M} {a : Act} (hf : FOn L fr I w m a) : ∀ {xs : List Operand} {ys : List Opd}, opdsOk xs ys = true → (∀ y ∈ ys, y ∈ L) → knownL (ys.map (·.ev fr)) = true →
    RVL1 I w m (ys.map (·.ev fr)) (xs.map a.eval)
  | [], [], _, _, _ => trivial
  | x :: xs, y :: ys, h, hm, hk => by
    simp only [opdsOk, Bool.and_eq_true] at h
    simp only [List.map_cons, knownL, allB] at hk
    split at hk
    · rename_i hk'
      exact ⟨RV_1 (hf.rv (hm y (by simp)) h.1) hk', opds_rv1 hf h.2 (fun z hz => hm z (by simp [hz])) hk⟩
    · cases hk
  | [], _ :: _, h, _, _ => by cases h
  | _ :: _, [], h, _, _ => by cases h
theorem mkfn_pok {f : Nat} {first' cap' : List Opd} (hok : opOk P o.op (.mkfn f first' cap') = true) (ev : evOp Γ (.mkfn f first' cap') fr st nx K) : POK P o (first' ++ cap') fr (fun v => K v st nx) := by
  simp only [evOp, forceL1_eq] at ev
  simp only [opOk] at hok
  split at hok
  · rename_i fn first cap ho
    simp only [Bool.and_eq_true] at hok
    obtain ⟨⟨h1, h2⟩, h3⟩ := hok
    split at h1
    · rename_i g
      simp only [beq_iff_eq] at h1; subst h1
      split at ev
      · rename_i hk
        simp only [Bool.and_eq_true] at hk
        refine pok ev fun {I w m a} hf => ⟨Instr.makeFunc (.func g) (first.map a.eval) (cap.map a.eval), by unfold execOp; rw [ho], ?_⟩
        refine ⟨.func (.func g) (first.map a.eval) (cap.map a.eval), ⟨_, _, rfl, ?_, ?_⟩, rfl⟩
        · rw [Array.toList_map]; exact opds_rv1 hf h2 (fun y hy => by simp [hy]) hk.1
        · rw [Array.toList_map]; exact opds_rv1 hf h3 (fun y hy => by simp [hy]) hk.2
      · exact ev.elim
    · cases h1
  · cases hok
def IOp.pure : IOp → Bool
  | .mov _ | .bin _ _ _ | .eqs _ _ _ _ | .eqb _ _ _ | .eqp _ _ _ | .eqn _ _ _ | .un _ _ | .conv _ _ | .pick _ _ _ | .slen _ | .minmax _ _ _ | .fieldAddr _ _ | .indexArr _ _ _ _ | .field _ _ _ | .index _ _ _ _ _ | .sindex _ _ | .pickI _ _ _ _ | .pickS _ _ _ | .build _ _ | .buildAll _ _
  | .sslice _ _ _ | .extract _ _ | .nilck _ | .mkfn _ _ _ => true
  | _ => false
theorem pure_pok (hp : io.pure = true) (hok : opOk P o.op io = true) (ev : evOp Γ io fr st nx K) : POK P o io.opds fr (fun v => K v st nx) := by
  cases io with
  | mov => exact mov_pok hok ev
  | bin => exact bin_pok hok ev
  | eqb => exact eqb_pok hok ev
  | eqs => exact eqs_pok hok ev
  | eqp => exact eqp_pok hok ev
  | eqn => exact eqn_pok hok ev
  | un => exact un_pok hok ev
  | conv => exact conv_pok hok ev
  | pick => exact pick_pok hok ev
  | slen => exact slen_pok hok ev
  | minmax => exact minmax_pok hok ev
  | fieldAddr => exact fieldAddr_pok hok ev
  | indexArr => exact indexArr_pok hok ev
  | field => exact field_pok hok ev
  | index => exact index_pok hok ev
  | sindex => exact sindex_pok hok ev
  | pickI => exact pickI_pok hok ev
  | pickS => exact pickS_pok hok ev
  | build => exact build_pok hok ev
  | buildAll => exact buildAll_pok hok ev
  | sslice => exact sslice_pok hok ev
  | extract => exact extract_pok hok ev
  | nilck => exact nilck_pok hok ev
  | mkfn => exact mkfn_pok hok ev
  | _ => cases hp
end ops
end Go.Eng
