/- Cells, stores and blocks: the lemmas beneath the operations on memory. No condition. -/
import Derived.Test.YtoejpijobbcooaaDoorERel
import Derived.Laws.World
import Derived.Laws.Entries
import Derived.Laws.Strings
namespace Go.Eng
set_option linter.unusedVariables false
set_option linter.unusedSimpArgs false
open Go.RowKit
section lists
variable {I : Nat → Prop} {w : World} {m : M}
theorem RVL0_length : ∀ {l : List AV} {r : List Value}, RVL0 I w m l r → l.length = r.length
  | [], [], _ => rfl
  | _ :: _, _ :: _, h => by simp [RVL0_length h.2]
  | [], _ :: _, h => h.elim
  | _ :: _, [], h => h.elim
theorem RVL0_drop : ∀ {l : List AV} {r : List Value} (n : Nat), RVL0 I w m l r → RVL0 I w m (l.drop n) (r.drop n)
  | _, _, 0, h => h
  | [], [], _ + 1, _ => trivial
  | _ :: _, _ :: _, n + 1, h => RVL0_drop n h.2
  | [], _ :: _, _, h => h.elim
  | _ :: _, [], _, h => h.elim
theorem RVL0_take : ∀ {l : List AV} {r : List Value} (n : Nat), RVL0 I w m l r → RVL0 I w m (l.take n) (r.take n)
  | [], [], 0, _ => trivial
  | _ :: _, _ :: _, 0, _ => trivial
  | [], [], _ + 1, _ => trivial
  | _ :: _, _ :: _, n + 1, h => ⟨h.1, RVL0_take n h.2⟩
  | [], _ :: _, _, h => h.elim
  | _ :: _, [], _, h => h.elim
theorem RVL0_append : ∀ {l l' : List AV} {r r' : List Value}, RVL0 I w m l r → RVL0 I w m l' r' → RVL0 I w m (l ++ l') (r ++ r')
  | [], _, [], _, _, h' => h'
  | _ :: _, _, _ :: _, _, h, h' => ⟨h.1, RVL0_append h.2 h'⟩
  | [], _, _ :: _, _, h, _ => h.elim
  | _ :: _, _, [], _, h, _ => h.elim
theorem RVL0_put : ∀ {l : List AV} {r : List Value} (off : Nat) {c : List AV} {s : List Value}, RVL0 I w m l r → RVL0 I w m c s → off + c.length ≤ l.length →
    RVL0 I w m (put l off c) (r.take off ++ s ++ r.drop (off + s.length))
  | l, r, off, [], [], h, _, _ => by
    have : put l off [] = l := by cases off <;> cases l <;> rfl
    rw [this]; simpa using h
  | _ :: _, _ :: _, 0, c :: cs, v :: vs, h, hc, hl => by
    simp only [List.length_cons] at hl
    have := RVL0_put 0 h.2 hc.2 (by omega)
    simp only [List.take_zero, List.nil_append, Nat.zero_add] at this
    refine ⟨hc.1, ?_⟩
    simpa using this
  | [], _, 0, _ :: _, _, _, _, hl => by simp at hl
  | [], _, _ + 1, _ :: _, _, _, _, hl => by simp at hl
  | _ :: _, _ :: _, off + 1, c :: cs, v :: vs, h, hc, hl => by
    have := RVL0_put off h.2 hc (by simp only [List.length_cons] at hl ⊢; omega)
    refine ⟨h.1, ?_⟩
    simp only [List.length_cons] at this ⊢
    rw [show off + 1 + (vs.length + 1) = (off + (vs.length + 1)) + 1 by omega]
    simpa using this
  | _, _, _, [], _ :: _, _, hc, _ => hc.elim
  | _, _, _, _ :: _, [], _, hc, _ => hc.elim
  | _ :: _, [], _, _, _, h, _, _ => h.elim
theorem put_length : ∀ (l : List AV) (off : Nat) (c : List AV), (put l off c).length = l.length
  | l, off, [] => by cases off <;> cases l <;> rfl
  | _ :: l, 0, _ :: c => by simp [put, put_length l 0 c]
  | [], 0, _ :: _ => rfl
  | [], _ + 1, _ :: _ => rfl
  | _ :: l, off + 1, c :: cs => by simp [put, put_length l off (c :: cs)]
theorem RV0_one {a : AV} {v : Value} (h : RV0 I w m a v) (ha : a ≠ .undef) : v.cells.toList = [v] := by
  cases a with
  | undef => exact absurd rfl ha
  | skp => exact h.elim
  | int => obtain ⟨rfl, _⟩ := h; rfl
  | bool => cases (show v = _ from h); rfl
  | kb => cases (show v = _ from h); rfl
  | str => obtain ⟨s, rfl, _⟩ := h; rfl
  | nilp => cases (show v = _ from h); rfl
  | nilm => cases (show v = _ from h); rfl
  | nils => cases (show v = _ from h); rfl
  | ptr => obtain ⟨_, _, rfl, _⟩ := h; rfl
  | imm => obtain ⟨_, _, _, rfl, _⟩ := h; rfl
  | iptr => obtain ⟨_, _, rfl, _⟩ := h; rfl
  | own => obtain ⟨_, _, _, rfl, _⟩ := h; rfl
  | view => obtain ⟨_, _, _, rfl, _⟩ := h; rfl
  | rptr => obtain ⟨_, _, rfl, _⟩ := h; rfl
  | mapv => obtain ⟨_, _, rfl, _⟩ := h; rfl
  | bview => obtain ⟨_, _, _, rfl, _⟩ := h; rfl
  | agg => exact h.elim
  | tup => exact h.elim
  | fn => exact h.elim
theorem RV0_oneCell {a : AV} {v : Value} (h : RV0 I w m a v) : v.oneCell' = true := by
  cases a with
  | undef => exact h
  | skp => exact h.elim
  | int => obtain ⟨rfl, _⟩ := h; rfl
  | bool => cases (show v = _ from h); rfl
  | kb => cases (show v = _ from h); rfl
  | str => obtain ⟨s, rfl, _⟩ := h; rfl
  | nilp => cases (show v = _ from h); rfl
  | nilm => cases (show v = _ from h); rfl
  | nils => cases (show v = _ from h); rfl
  | ptr => obtain ⟨_, _, rfl, _⟩ := h; rfl
  | imm => obtain ⟨_, _, _, rfl, _⟩ := h; rfl
  | iptr => obtain ⟨_, _, rfl, _⟩ := h; rfl
  | own => obtain ⟨_, _, _, rfl, _⟩ := h; rfl
  | view => obtain ⟨_, _, _, rfl, _⟩ := h; rfl
  | rptr => obtain ⟨_, _, rfl, _⟩ := h; rfl
  | mapv => obtain ⟨_, _, rfl, _⟩ := h; rfl
  | bview => obtain ⟨_, _, _, rfl, _⟩ := h; rfl
  | agg => exact h.elim
  | tup => exact h.elim
  | fn => exact h.elim
def isSc : AV → Bool
  | .undef => false
  | .skp => false
  | .agg _ => false
  | .tup _ => false
  | .fn _ _ _ => false
  | _ => true
theorem RVL0_oneCell : ∀ {l : List AV} {r : List Value}, RVL0 I w m l r → ∀ v ∈ r, v.oneCell' = true
  | [], [], _ => fun v hv => by cases hv
  | _ :: _, _ :: _, h => fun v hv => by
    cases hv with
    | head => exact RV0_oneCell h.1
    | tail _ hv => exact RVL0_oneCell h.2 v hv
  | [], _ :: _, h => h.elim
  | _ :: _, [], h => h.elim
theorem RV_sc {a : AV} {v : Value} (h : RV I w m a v) (e : isSc a = true) : RV0 I w m a v := by
  cases a with
  | undef => cases e
  | skp => cases e
  | agg => cases e
  | tup => cases e
  | fn => cases e
  | _ => exact h
theorem RVL0_flat {a : AV} {v : Value} {c : List AV} (h : RV I w m a v) (e : a.flat = some c) : RVL0 I w m c v.cells.toList := by
  cases a with
  | undef => cases e
  | skp => cases e
  | tup => cases e
  | fn => cases e
  | agg l => cases e; obtain ⟨cs, rfl, h⟩ := h; exact h
  | _ =>
    cases e
    have h0 := RV_sc h rfl
    rw [RV0_one h0 (by intro h; cases h)]
    exact ⟨h0, trivial⟩
theorem RVL0_get {l : List AV} {r : List Value} {n : Nat} {v : AV} {t : List AV} (h : RVL0 I w m l r) (e : l.drop n = v :: t) : ∃ cv, r[n]? = some cv ∧ RV0 I w m v cv := by
  have h' := RVL0_drop n h
  rw [e] at h'
  cases hr : r.drop n with
  | nil => rw [hr] at h'; exact h'.elim
  | cons c s =>
    rw [hr] at h'
    refine ⟨c, ?_, h'.1⟩
    have := List.getElem?_drop (xs := r) (i := n) (j := 0)
    rw [hr] at this; simpa using this.symm
/-- What 'cut' leaves. -/
theorem cut_some {n : Option Nat} {off : Nat} {l : List AV} {K : AV → Prop} (ev : cut n off l K) :
    (n = none ∧ ∃ v t, l.drop off = v :: t ∧ K v) ∨ (∃ k, n = some k ∧ off + k ≤ l.length ∧ K (.agg ((l.drop off).take k))) := by
  unfold cut at ev
  split at ev
  · split at ev
    · rename_i v t hd
      rw [force0_eq] at ev
      exact .inl ⟨rfl, v, t, hd, ev⟩
    · exact ev.elim
  · rename_i k
    split at ev
    · rename_i hd
      rw [forceL0_eq] at ev
      exact .inr ⟨k, rfl, of_decide_eq_true hd, ev⟩
    · exact ev.elim
theorem RC_cells : ∀ (t : Ty) (x : t.den) (cs : List Value), RC I w t x cs → RVL0 I w m (t.cells x) cs
  | .int k, n, cs, h => by simp only [RC] at h; obtain ⟨rfl, h⟩ := h; exact ⟨⟨rfl, h⟩, trivial⟩
  | .bool, b, cs, h => by simp only [RC] at h; subst h; exact ⟨rfl, trivial⟩
  | .str, l, cs, h => by simp only [RC] at h; obtain ⟨s, rfl, h⟩ := h; exact ⟨⟨s, rfl, h⟩, trivial⟩
  | .nil, _, cs, h => by simp only [RC] at h; subst h; exact trivial
  | .cons a b, x, cs, h => by
    simp only [RC] at h
    obtain ⟨c1, c2, rfl, h1, h2⟩ := h
    exact RVL0_append (RC_cells a _ _ h1) (RC_cells b _ _ h2)
  | .sl t, l, cs, h => by
    obtain ⟨ao, len, cap, rfl, h'⟩ := RC_sl.1 h
    exact ⟨⟨ao, len, cap, rfl, h'⟩, trivial⟩
theorem ofCells_sound : ∀ (t : Ty) (l : List AV) (r : List Value) (x : t.den) (l' : List AV), RVL0 I w m l r → t.ofCells l = some (x, l') →
    ∃ c1 c2, r = c1 ++ c2 ∧ RC I w t x c1 ∧ RVL0 I w m l' c2
  | .int k, .int k' n :: l, v :: r, x, l', h, e => by
    simp only [Ty.ofCells] at e
    split at e
    · rename_i hk _
      simp only [Option.some.injEq, Prod.mk.injEq] at e
      obtain ⟨rfl, rfl⟩ := e
      subst hk
      obtain ⟨rfl, hn⟩ := h.1
      exact ⟨[_], r, rfl, ⟨rfl, hn⟩, h.2⟩
    · cases e
  | .bool, .bool b :: l, v :: r, x, l', h, e => by
    simp only [Ty.ofCells, Option.some.injEq, Prod.mk.injEq] at e
    obtain ⟨rfl, rfl⟩ := e
    cases (show v = _ from h.1)
    exact ⟨[_], r, rfl, rfl, h.2⟩
  | .bool, .kb b :: l, v :: r, x, l', h, e => by
    simp only [Ty.ofCells, Option.some.injEq, Prod.mk.injEq] at e
    obtain ⟨rfl, rfl⟩ := e
    cases (show v = _ from h.1)
    exact ⟨[_], r, rfl, rfl, h.2⟩
  | .str, .str s :: l, v :: r, x, l', h, e => by
    simp only [Ty.ofCells, Option.some.injEq, Prod.mk.injEq] at e
    obtain ⟨rfl, rfl⟩ := e
    obtain ⟨s, rfl, hs⟩ := h.1
    exact ⟨[_], r, rfl, ⟨s, rfl, hs⟩, h.2⟩
  | .nil, l, r, x, l', h, e => by
    simp only [Ty.ofCells, Option.some.injEq, Prod.mk.injEq] at e
    obtain ⟨_, rfl⟩ := e
    exact ⟨[], r, rfl, rfl, h⟩
  | .cons a b, l, r, x, l', h, e => by
    simp only [Ty.ofCells] at e
    split at e
    · rename_i x1 r1 e1
      split at e
      · rename_i x2 r2 e2
        simp only [Option.some.injEq, Prod.mk.injEq] at e
        obtain ⟨rfl, rfl⟩ := e
        obtain ⟨c1, c2, rfl, h1, h2⟩ := ofCells_sound a l r _ _ h e1
        obtain ⟨c3, c4, rfl, h3, h4⟩ := ofCells_sound b _ c2 _ _ h2 e2
        exact ⟨c1 ++ c3, c4, by simp, ⟨c1, c3, rfl, h1, h3⟩, h4⟩
      · cases e
    · cases e
  | .sl t, .imm t' y :: l, v :: r, x, l', h, e => by
    simp only [Ty.ofCells] at e
    split at e
    · rename_i ht _
      simp only [Option.some.injEq, Prod.mk.injEq] at e
      obtain ⟨rfl, rfl⟩ := e
      subst ht
      obtain ⟨ao, len, cap, rfl, hs⟩ := h.1
      exact ⟨[_], r, rfl, RC_sl.2 ⟨ao, len, cap, rfl, hs⟩, h.2⟩
    · cases e
  | .sl t, .nils :: l, v :: r, x, l', h, e => by
    simp only [Ty.ofCells, Option.some.injEq, Prod.mk.injEq] at e
    obtain ⟨rfl, rfl⟩ := e
    cases (show v = _ from h.1)
    exact ⟨[_], r, rfl, RC_sl.2 ⟨none, 0, 0, rfl, rfl, Nat.le_refl _, Nat.zero_le _, fun h => absurd h (by omega)⟩, h.2⟩
theorem ofCells_one {t : Ty} {l : List AV} {r : List Value} {x : t.den} (h : RVL0 I w m l r) (e : t.one l = some x) : RC I w t x r := by
  unfold Ty.one at e
  split at e
  · rename_i y hy
    cases e
    obtain ⟨c1, c2, rfl, h1, h2⟩ := ofCells_sound t l r _ _ h hy
    cases c2 with
    | nil => simpa using h1
    | cons => exact h2.elim
  · cases e
theorem all_sound {t : Ty} : ∀ (n : Nat) (l : List AV) (r : List Value) (x : List t.den), RVL0 I w m l r → t.all n l = some x →
    x.length = n ∧ r.length = n * t.size ∧ ∀ i (h : i < x.length), ∃ es, RC I w t x[i] es ∧ ∀ j (hj : j < es.length), r[i * t.size + j]? = some es[j]
  | 0, l, r, x, h, e => by
    cases l with
    | nil =>
      simp only [Ty.all, Option.some.injEq] at e; subst e
      cases r with
      | nil => simp
      | cons => exact h.elim
    | cons => simp [Ty.all] at e
  | n + 1, l, r, x, h, e => by
    simp only [Ty.all] at e
    split at e
    · rename_i y l1 e1
      split at e
      · rename_i z e2
        simp only [Option.some.injEq] at e; subst e
        obtain ⟨c1, c2, rfl, h1, h2⟩ := ofCells_sound t l r _ _ h e1
        obtain ⟨h3, h4, h5⟩ := all_sound n l1 c2 z h2 e2
        have hl := RC_length t _ _ h1
        refine ⟨by simp [h3], by simp [hl, h4, Nat.add_mul]; omega, fun i hi => ?_⟩
        cases i with
        | zero =>
          refine ⟨c1, h1, fun j hj => ?_⟩
          rw [Nat.zero_mul, Nat.zero_add, List.getElem?_append_left hj, List.getElem?_eq_getElem hj]
        | succ i =>
          obtain ⟨es, h6, h7⟩ := h5 i (by simpa using hi)
          refine ⟨es, h6, fun j hj => ?_⟩
          rw [show (i + 1) * t.size + j = c1.length + (i * t.size + j) by rw [hl, Nat.add_mul]; omega, List.getElem?_append_right (by omega), Nat.add_sub_cancel_left]
          exact h7 j hj
      · cases e
    · cases e
end lists
theorem Store.get_cons (st : Store) (id : Nat) (o : Obj) (i : Nat) : Store.get ((id, o) :: st) i = if i = id then some o else st.get i := by
  show (match Nat.beq id i with | true => some o | false => st.get i) = _
  by_cases h : i = id
  · subst h; rw [if_pos rfl, Nat.beq_refl]
  · rw [if_neg h]
    have : Nat.beq id i = false := by
      rw [← Bool.not_eq_true, Nat.beq_eq]; omega
    rw [this]
theorem Store.get_set : ∀ (st : Store) (id : Nat) (o : Obj) (i : Nat), (st.set id o).get i = if i = id then some o else st.get i
  | [], id, o, i => by unfold Store.set; rw [Store.get_cons]
  | (j, v) :: r, id, o, i => by
    unfold Store.set
    cases hb : Nat.beq j id with
    | true =>
      have : j = id := Nat.eq_of_beq_eq_true hb
      subst this
      simp only [Store.get_cons]
      split <;> rfl
    | false =>
      have hj : id ≠ j := by intro e; subst e; rw [Nat.beq_refl] at hb; cases hb
      simp only [Store.get_cons]
      rw [Store.get_set r id o i]
      by_cases h1 : i = j
      · subst h1; rw [if_pos rfl, if_pos rfl]; rw [if_neg]; omega
      · rw [if_neg h1, if_neg h1]
theorem Frame.get_cons (fr : Frame) (d : Nat) (v : AV) (i : Nat) : Frame.get ((d, v) :: fr) i = if i = d then v else fr.get i := by
  show (match Nat.beq d i with | true => v | false => fr.get i) = _
  by_cases h : i = d
  · subst h; rw [if_pos rfl, Nat.beq_refl]
  · rw [if_neg h]
    have : Nat.beq d i = false := by
      rw [← Bool.not_eq_true, Nat.beq_eq]; omega
    rw [this]
/-- A number is given out. -/
def M.push (m : M) (id : Nat) (blk : Option Nat) (cap len sz : Nat) : M :=
  { blk := fun i => if i = id then blk else m.blk i, cap := fun i => if i = id then cap else m.cap i, len := fun i => if i = id then len else m.len i, sz := fun i => if i = id then sz else m.sz i, used := fun i => m.used i ∨ i = id }
theorem M.push_le {m : M} {id : Nat} {b : Option Nat} {c d e : Nat} (h : ¬ m.used id) : m.le (m.push id b c d e) :=
  ⟨fun i hi => .inl hi, fun i hi => by
    have hne : i ≠ id := fun e => h (e ▸ hi)
    simp only [M.push, M.same]
    rw [if_neg hne, if_neg hne, if_neg hne, if_neg hne]
    exact ⟨rfl, rfl, rfl, rfl⟩⟩
theorem M.push_blk (m : M) (id : Nat) (b : Option Nat) (c d e : Nat) : (m.push id b c d e).blk id = b := if_pos rfl
theorem M.push_cap (m : M) (id : Nat) (b : Option Nat) (c d e : Nat) : (m.push id b c d e).cap id = c := if_pos rfl
theorem M.push_len (m : M) (id : Nat) (b : Option Nat) (c d e : Nat) : (m.push id b c d e).len id = d := if_pos rfl
theorem M.push_sz (m : M) (id : Nat) (b : Option Nat) (c d e : Nat) : (m.push id b c d e).sz id = e := if_pos rfl
section hs
variable {X0 : Bool → Nat → Prop} {I0 I I' : Nat → Prop} {w0 w w' : World} {m m' : M} {σ σ' : Sto}
/-- One step of the memory's part: some numbers' things turn (T), all else stays. -/
theorem HS.step (h : HS X0 I0 w0 σ I w m) (E : Evo I w m I' w' m') (T : Nat → Prop)
    (hσ : ∀ i, ¬ T i → σ' i = σ i)
    (hfr : Fr (fun b => ∃ i o, T i ∧ σ i = some o ∧ o.mut = true ∧ m.blk i = some b) w w')
    (hIn : ∀ b, I' b → I b ∨ w.heap.size ≤ b ∨ ∃ i o, T i ∧ σ i = some o ∧ o.mut = true ∧ m.blk i = some b)
    (hIlt : ∀ b, I' b → b < w'.heap.size)
    (hobj : ∀ i o, T i → σ' i = some o → m'.used i ∧ ObjOk I' w' m' i o)
    (hblk : ∀ i o b, T i → σ' i = some o → o.live = true → m'.blk i = some b → w.heap.size ≤ b ∨ ∃ j o', T j ∧ σ j = some o' ∧ o'.live = true ∧ (o.mut = true → o'.mut = true) ∧ m.blk j = some b)
    (hinj : ∀ i j o o' b, T i → T j → σ' i = some o → σ' j = some o' → o.live = true → o'.live = true → m'.blk i = some b → m'.blk j = some b → i = j)
    (hmut : ∀ i o b, T i → σ' i = some o → o.mut = true → m'.blk i = some b → ¬ I' b)
    (hisI : ∀ i t x b, T i → σ' i = some (.row true t x) → m'.blk i = some b → I' b) : HS X0 I0 w0 σ' I' w' m' := by
  have hml : ∀ {o : Obj}, o.mut = true → o.live = true := fun {o} h => by cases o <;> first | rfl | cases h
  have hblk' : ∀ {i o}, σ i = some o → m'.blk i = m.blk i := fun {i o} hi => (E.m.2 i (h.H.lt i (by rw [hi]; intro h; cases h))).1
  refine ⟨⟨fun i hi => ?_, fun i o hi => ?_, fun i j o o' b hi hj hl hl' hb hb' => ?_, fun i o b hi hm hb => ?_, fun i t x b hi hb => ?_, hIlt⟩, ?_, fun b hb => E.up b (h.Isub b hb), fun b hb => ?_, fun i o b hi hm hb => ?_, fun i o b hi hm hb => ?_⟩
  · by_cases hT : T i
    · cases e : σ' i with
      | none => exact absurd e hi
      | some o => exact (hobj i o hT e).1
    · rw [hσ i hT] at hi; exact E.m.1 i (h.H.lt i hi)
  · by_cases hT : T i
    · exact (hobj i o hT hi).2
    · rw [hσ i hT] at hi
      have hn : σ i ≠ none := by rw [hi]; intro h; cases h
      refine ObjOk.mono E.up E.same E.m (h.H.lt i hn) (fun hl b hb => hfr.block b ((h.H.obj i o hi).lt hl hb) ?_) (h.H.obj i o hi)
      rintro ⟨j, o', hTj, hj, hm, hbj⟩
      exact hT (h.H.inj j i o' o b hj hi (hml hm) hl hbj hb ▸ hTj)
  · by_cases hT : T i <;> by_cases hT' : T j
    · exact hinj i j o o' b hT hT' hi hj hl hl' hb hb'
    · rw [hσ j hT'] at hj
      rw [hblk' hj] at hb'
      rcases hblk i o b hT hi hl hb with h1 | ⟨k, ok, hTk, hk, hlk, _, hbk⟩
      · have := (h.H.obj j o' hj).lt hl' hb'; omega
      · exact absurd (h.H.inj k j ok o' b hk hj hlk hl' hbk hb' ▸ hTk) hT'
    · rw [hσ i hT] at hi
      rw [hblk' hi] at hb
      rcases hblk j o' b hT' hj hl' hb' with h1 | ⟨k, ok, hTk, hk, hlk, _, hbk⟩
      · have := (h.H.obj i o hi).lt hl hb; omega
      · exact absurd (h.H.inj k i ok o b hk hi hlk hl hbk hb ▸ hTk) hT
    · rw [hσ i hT] at hi; rw [hσ j hT'] at hj
      rw [hblk' hi] at hb; rw [hblk' hj] at hb'
      exact h.H.inj i j o o' b hi hj hl hl' hb hb'
  · by_cases hT : T i
    · exact hmut i o b hT hi hm hb
    · rw [hσ i hT] at hi
      rw [hblk' hi] at hb
      intro hI
      rcases hIn b hI with h1 | h1 | ⟨j, o', hTj, hj, hm', hbj⟩
      · exact h.H.notI i o b hi hm hb h1
      · have := (h.H.obj i o hi).lt (hml hm) hb; omega
      · exact hT (h.H.inj j i o' o b hj hi (hml hm') (hml hm) hbj hb ▸ hTj)
  · by_cases hT : T i
    · exact hisI i t x b hT hi hb
    · rw [hσ i hT] at hi
      rw [hblk' hi] at hb
      exact E.up b (h.H.isI i t x b hi hb)
  · refine h.fr0.trans hfr ?_
    rintro b hb ⟨j, o', _, hj, hm', hbj⟩
    rcases h.own j o' b hj hm' hbj with h1 | h1
    · exact h1
    · omega
  · rcases hIn b hb with h1 | h1 | ⟨j, o', _, hj, hm', hbj⟩
    · exact h.Inew b h1
    · exact .inr (.inl (Nat.le_trans h.fr0.size h1))
    · rcases h.own j o' b hj hm' hbj with h1 | h1
      · exact .inr (.inr h1)
      · exact .inr (.inl h1)
  · by_cases hT : T i
    · rcases hblk i o b hT hi (hml hm) hb with h1 | ⟨j, o', _, hj, _, hmm, hbj⟩
      · exact .inr (Nat.le_trans h.fr0.size h1)
      · exact h.own j o' b hj (hmm hm) hbj
    · rw [hσ i hT] at hi
      rw [hblk' hi] at hb
      exact h.own i o b hi hm hb
  · by_cases hT : T i
    · rcases hblk i o b hT hi hm hb with h1 | ⟨j, o', _, hj, hl, _, hbj⟩
      · exact .inr (Nat.le_trans h.fr0.size h1)
      · exact h.ownL j o' b hj hl hbj
    · rw [hσ i hT] at hi
      rw [hblk' hi] at hb
      exact h.ownL i o b hi hm hb
theorem HS.ext (h : HS X0 I0 w0 σ I w m) (e : ∀ i, σ' i = σ i) : HS X0 I0 w0 σ' I w m := by
  have : σ' = σ := funext e
  rw [this]; exact h
/-- A block's cells, changed at one place. -/
theorem setCell_block {w : World} {b : Nat} {cs : Array Value} {T : TypeId} {f : Nat × Nat} (h : w.heap[b]? = some (.cells cs T f)) (o : Nat) (v : Value) :
    (w.setCell ⟨b, o, none⟩ v).heap[b]? = some (.cells (cs.setIfInBounds o v) T f) := by
  simp [World.setCell, Array.getElem?_modify, h]
theorem cell_block {w : World} {b : Nat} {cs : Array Value} {T : TypeId} {f : Nat × Nat} (h : w.heap[b]? = some (.cells cs T f)) (o : Nat) :
    w.cell? ⟨b, o, none⟩ = cs[o]? := by
  simp [World.cell?, h]
theorem frozen_block {w : World} {b : Nat} {cs : Array Value} {T : TypeId} {fz : Nat × Nat} (h : w.heap[b]? = some (.cells cs T fz)) (hz : FzOk fz cs.size) (o : Nat) (ho : o < cs.size) :
    w.frozen? ⟨b, o, none⟩ = false := by
  have := hz o ho
  obtain ⟨lo, hi⟩ := fz
  simp only [World.frozen?, h, Bool.and_eq_false_iff, decide_eq_false_iff_not]
  by_cases h1 : lo ≤ o
  · exact .inr (this h1)
  · exact .inl h1
theorem addr_add (b o i : Nat) : (Addr.add ⟨b, o, none⟩ i) = ⟨b, o + i, none⟩ := by
  unfold Addr.add; split
  · subst_vars; rfl
  · rfl
/-- Many cells are stored one behind the other. -/
theorem storeCells_run {P : Program} {b : Nat} {T : TypeId} {fz : Nat × Nat} : ∀ (vs : List Value) (i off : Nat) (w : World) (cs : Array Value), w.heap[b]? = some (.cells cs T fz) → FzOk fz cs.size → off + i + vs.length ≤ cs.size →
    (∀ v ∈ vs, v.oneCell' = true) →
    ∃ w', (storeCells ⟨b, off, none⟩ vs i).run P w = .ok () w' ∧ w'.heap[b]? = some (.cells ((cs.toList.take (off + i) ++ vs ++ cs.toList.drop (off + i + vs.length)).toArray) T fz) ∧
      w'.heap.size = w.heap.size ∧ (∀ k, k ≠ b → w'.heap[k]? = w.heap[k]?) ∧ w'.os = w.os ∧ w'.tape = w.tape ∧ w'.output = w.output
  | [], i, off, w, cs, h, _, _, _ => ⟨w, rfl, by simp [h], rfl, fun _ _ => rfl, rfl, rfl, rfl⟩
  | v :: vs, i, off, w, cs, h, hz, hl, hv => by
    simp only [List.length_cons] at hl
    have ha := addr_add b off i
    have hc : w.cell? ⟨b, off + i, none⟩ = some cs[off + i] := by rw [cell_block h]; exact Array.getElem?_eq_getElem (by omega)
    have hst : (store ⟨b, off + i, none⟩ v).run P w = .ok () (w.setCell ⟨b, off + i, none⟩ v) := by
      rw [run_store P w _ v _ (hv v (by simp)), hc]
      simp [frozen_block h hz (off + i) (by omega)]
    obtain ⟨w', h1, h2, h3, h4, h5, h6, h7⟩ := storeCells_run vs (i + 1) off (w.setCell ⟨b, off + i, none⟩ v) _ (setCell_block h (off + i) v) (by simpa using hz) (by simp; omega) (fun u hu => hv u (by simp [hu]))
    refine ⟨w', ?_, ?_, ?_, ?_, ?_, ?_, ?_⟩
    · unfold storeCells
      rw [Sem.run_bind, ha, hst]; exact h1
    · rw [h2]
      have hlen : off + i < cs.toList.length := by simp; omega
      simp only [Option.some.injEq, Go.Obj.cells.injEq, and_true, List.toArray_eq_iff]
      simp only [Array.toList_setIfInBounds, List.length_cons]
      rw [show off + (i + 1) = off + i + 1 by omega, List.take_set, List.take_succ_eq_append_getElem hlen, List.set_append_right _ _ (by simp; omega)]
      simp only [List.length_take, Nat.min_eq_left (Nat.le_of_lt hlen), Nat.sub_self, List.set_cons_zero]
      rw [List.drop_set_of_lt (by omega), show off + i + 1 + vs.length = off + i + (vs.length + 1) by omega]
      simp
    · rw [h3]; simp
    · intro k hk; rw [h4 k hk]; exact Below.heap_setCell _ _ _ _ hk
    · rw [h5]; rfl
    · rw [h6]; rfl
    · rw [h7]; rfl
theorem cells_of {w : World} {cs : Array Value} {T : TypeId} {b : Nat} {f : Nat × Nat} (h : w.heap[b]? = some (.cells cs T f)) : ∀ j (hj : j < cs.toList.length), w.cell? ⟨b, 0 + j, none⟩ = some cs.toList[j] := fun j hj => by
  rw [cell_block h, Nat.zero_add]
  simp only [Array.length_toList] at hj
  rw [Array.getElem?_eq_getElem hj]; simp
end hs
end Go.Eng
