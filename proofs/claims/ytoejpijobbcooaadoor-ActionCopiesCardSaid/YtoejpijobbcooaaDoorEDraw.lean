/- Regions whose order is drawn. No condition. -/
import Derived.Test.YtoejpijobbcooaaDoorECode
import Derived.Orders
namespace Go.Eng
set_option linter.unusedVariables false
set_option linter.unusedSimpArgs false
open Go.RowKit
/-- One thing is known of all that another one is a value of. -/
def Imp (v v' : AV) : Prop := ∀ {I : Nat → Prop} {w : World} {m : M} {cv : Value}, RV I w m v cv → RV I w m v' cv
theorem Imp.refl (v : AV) : Imp v v := fun h => h
theorem Imp.trans {a b c : AV} (h : Imp a b) (k : Imp b c) : Imp a c := fun x => k (h x)
/-- A step that was walked in the written order. -/
structure Stp where
  o : Oper
  d : Option Nat
  looks : List Nat
  F : List Nat
  W : List Nat
  v : AV
  st1 : Store
  lo : Nat
  hi : Nat
  T : List Nat
def looksOf (x : IOper) : List Nat := (x.op.opds.filterMap fun y => match y with | .t i => some i | _ => none) ++ (match x.guard with | some (g, _) => [g] | none => [])
structure SF (P : Program) (ops : Array Oper) (X0 : Bool → Nat → Prop) (I0 : Nat → Prop) (w0 : World) (fr : Frame) (st : Store) (nx : Nat) (s : Stp) : Prop where
  lo : s.lo = nx
  le : nx ≤ s.hi
  out : ∀ i, i ∉ s.T → s.st1.get i = st.get i
  sub : ∀ i ∈ s.T, (i ∈ s.F ∧ i ∈ s.W ∧ i < nx) ∨ (nx ≤ i ∧ i < s.hi)
  new : ∀ i, nx ≤ i → i < s.hi → i ∈ s.W
  run : ∀ {σ : Sto} {I : Nat → Prop} {w : World} {m : M} {a : Act} (N : Act → World → Prop) (Q : Exit → Act → World → Prop), (∀ i ∈ s.looks, RV I w m (fr.get i) (a.tmps.getD i undef)) → HS X0 I0 w0 σ I w m → (∀ i ∈ s.F, σ i = st.get i) → (∀ i, nx ≤ i → i < s.hi → ¬ m.used i) →
    (∀ cv I' w' m', Good X0 I0 w0 I w m (upd σ s.T s.st1) s.v nx s.hi cv I' w' m' → N (a.put s.o.dst cv) w') →
    if Region.wanted s.o (yielded ops a.tmps) then s.o.wp P a w N Q else N (a.put s.o.dst undef) w
/-- Steps, one behind the other. -/
inductive Chain (P : Program) (ops : Array Oper) (X0 : Bool → Nat → Prop) (I0 : Nat → Prop) (w0 : World) : Frame → Store → Nat → List Stp → Frame → Store → Nat → Prop
  | nil {fr : Frame} {st : Store} {nx : Nat} : Chain P ops X0 I0 w0 fr st nx [] fr st nx
  | cons {fr fr1 fr2 : Frame} {st st2 : Store} {nx nx2 : Nat} {s : Stp} {r : List Stp} : SF P ops X0 I0 w0 fr st nx s → (∀ i, s.d ≠ some i → Imp (fr.get i) (fr1.get i)) → (∀ i, s.d = some i → Imp s.v (fr1.get i)) → Chain P ops X0 I0 w0 fr1 s.st1 s.hi r fr2 st2 nx2 → Chain P ops X0 I0 w0 fr st nx (s :: r) fr2 st2 nx2
section
variable {P : Program} {ops : Array Oper} {X0 : Bool → Nat → Prop} {I0 : Nat → Prop} {w0 : World}
theorem Chain.le {fr fr2 : Frame} {st st2 : Store} {nx nx2 : Nat} {l : List Stp} (h : Chain P ops X0 I0 w0 fr st nx l fr2 st2 nx2) : nx ≤ nx2 := by
  induction h with
  | nil => exact Nat.le_refl _
  | cons h1 _ _ _ ih => exact Nat.le_trans h1.le ih
theorem Chain.ge {fr fr2 : Frame} {st st2 : Store} {nx nx2 : Nat} {l : List Stp} (h : Chain P ops X0 I0 w0 fr st nx l fr2 st2 nx2) : ∀ s ∈ l, nx ≤ s.lo ∧ s.hi ≤ nx2 := by
  induction h with
  | nil => exact fun s hs => by cases hs
  | cons h1 _ _ h4 ih =>
    intro s hs
    rcases List.mem_cons.1 hs with rfl | hs
    · exact ⟨by rw [h1.lo]; exact Nat.le_refl _, h4.le⟩
    · have := ih s hs; have := h1.le; omega
theorem Chain.split {fr2 : Frame} {st2 : Store} {nx2 : Nat} {s : Stp} {post : List Stp} : ∀ {pre : List Stp} {fr : Frame} {st : Store} {nx : Nat}, Chain P ops X0 I0 w0 fr st nx (pre ++ s :: post) fr2 st2 nx2 →
    ∃ fr' st' nx' fr1, Chain P ops X0 I0 w0 fr st nx pre fr' st' nx' ∧ SF P ops X0 I0 w0 fr' st' nx' s ∧ Chain P ops X0 I0 w0 fr1 s.st1 s.hi post fr2 st2 nx2
  | [], fr, st, nx, h => by
    cases h with
    | cons h1 h2 h3 h4 => exact ⟨_, _, _, _, .nil, h1, h4⟩
  | a :: pre, fr, st, nx, h => by
    cases h with
    | cons h1 h2 h3 h4 =>
      obtain ⟨fr', st', nx', fr1, k1, k2, k3⟩ := Chain.split (pre := pre) h4
      exact ⟨fr', st', nx', fr1, .cons h1 h2 h3 k1, k2, k3⟩
/-- What is there when some of the steps were done. -/
def foldS (L : Nat → Bool) : List Stp → Nat → Sto → Sto
  | [], _, σ => σ
  | s :: r, k, σ => foldS L r (k + 1) (if L k then upd σ s.T s.st1 else σ)
def foldF (L : Nat → Bool) : List Stp → Nat → (Nat → AV) → (Nat → AV)
  | [], _, φ => φ
  | s :: r, k, φ => foldF L r (k + 1) (if L k then (fun i => if s.d = some i then s.v else φ i) else φ)
theorem foldS_append (L : Nat → Bool) : ∀ (pre r : List Stp) (k : Nat) (σ : Sto), foldS L (pre ++ r) k σ = foldS L r (k + pre.length) (foldS L pre k σ)
  | [], _, _, _ => rfl
  | s :: pre, r, k, σ => by
    simp only [List.cons_append, foldS, List.length_cons]
    rw [foldS_append L pre r (k + 1), show k + 1 + pre.length = k + (pre.length + 1) by omega]
theorem foldF_append (L : Nat → Bool) : ∀ (pre r : List Stp) (k : Nat) (φ : Nat → AV), foldF L (pre ++ r) k φ = foldF L r (k + pre.length) (foldF L pre k φ)
  | [], _, _, _ => rfl
  | s :: pre, r, k, φ => by
    simp only [List.cons_append, foldF, List.length_cons]
    rw [foldF_append L pre r (k + 1), show k + 1 + pre.length = k + (pre.length + 1) by omega]
theorem foldS_skip {L : Nat → Bool} {x : Nat} : ∀ {l : List Stp} {k : Nat} {σ : Sto}, (∀ j (h : j < l.length), L (k + j) = true → x ∉ l[j].T) → foldS L l k σ x = σ x
  | [], _, _, _ => rfl
  | s :: r, k, σ, h => by
    unfold foldS
    rw [foldS_skip fun j hj hL => by have := h (j + 1) (by simpa using hj) (by rw [show k + (j + 1) = k + 1 + j by omega]; exact hL); simpa using this]
    cases hk : L k with
    | true => rw [if_pos rfl, upd_out]; have := h 0 (by simp) (by simpa using hk); simpa using this
    | false => rfl
theorem foldF_skip {L : Nat → Bool} {x : Nat} : ∀ {l : List Stp} {k : Nat} {φ : Nat → AV}, (∀ j (h : j < l.length), L (k + j) = true → l[j].d ≠ some x) → foldF L l k φ x = φ x
  | [], _, _, _ => rfl
  | s :: r, k, φ, h => by
    unfold foldF
    rw [foldF_skip fun j hj hL => by have := h (j + 1) (by simpa using hj) (by rw [show k + (j + 1) = k + 1 + j by omega]; exact hL); simpa using this]
    cases hk : L k with
    | true => rw [if_pos rfl]; have := h 0 (by simp) (by simpa using hk); exact if_neg (by simpa using this)
    | false => rfl
theorem foldS_agree {L : Nat → Bool} {x : Nat} {fr fr2 : Frame} {st st2 : Store} {nx nx2 : Nat} {l : List Stp} (h : Chain P ops X0 I0 w0 fr st nx l fr2 st2 nx2) : ∀ {k : Nat} {σ : Sto}, (∀ j (h : j < l.length), L (k + j) = false → x ∉ l[j].T) → σ x = st.get x → foldS L l k σ x = st2.get x := by
  induction h with
  | nil => exact fun _ h => h
  | @cons fr fr1 fr2 st st2 nx nx2 s r h1 _ _ _ ih =>
    intro k σ hL e
    unfold foldS
    refine ih (fun j hj hl => by have := hL (j + 1) (by simpa using hj) (by rw [show k + (j + 1) = k + 1 + j by omega]; exact hl); simpa using this) ?_
    by_cases hx : x ∈ s.T
    · cases hk : L k with
      | true => rw [if_pos rfl, upd_in hx]
      | false => exact absurd hx (by have := hL 0 (by simp) (by simpa using hk); simpa using this)
    · rw [h1.out x hx]
      cases hk : L k with
      | true => rw [if_pos rfl, upd_out hx]; exact e
      | false => exact e
theorem foldF_agree {L : Nat → Bool} {x : Nat} {fr fr2 : Frame} {st st2 : Store} {nx nx2 : Nat} {l : List Stp} (h : Chain P ops X0 I0 w0 fr st nx l fr2 st2 nx2) : ∀ {k : Nat} {φ : Nat → AV}, (∀ j (h : j < l.length), L (k + j) = false → l[j].d ≠ some x) → Imp (φ x) (fr.get x) → Imp (foldF L l k φ x) (fr2.get x) := by
  induction h with
  | nil => exact fun _ h => h
  | @cons fr fr1 fr2 st st2 nx nx2 s r h1 h2 h3 _ ih =>
    intro k φ hL e
    unfold foldF
    refine ih (fun j hj hl => by have := hL (j + 1) (by simpa using hj) (by rw [show k + (j + 1) = k + 1 + j by omega]; exact hl); simpa using this) ?_
    by_cases hx : s.d = some x
    · cases hk : L k with
      | true => rw [if_pos rfl]; simp only [hx, if_true]; exact h3 x hx
      | false => exact absurd hx (by have := hL 0 (by simp) (by simpa using hk); simpa using this)
    · cases hk : L k with
      | true => rw [if_pos rfl]; simp only [hx, if_false]; exact e.trans (h2 x hx)
      | false => exact e.trans (h2 x hx)
/-- Two steps that may be done in either order. -/
structure Free (s t : Stp) : Prop where
  a : ∀ x ∈ s.W, x ∉ t.F
  b : ∀ x ∈ s.F, x ∉ t.W
  c : ∀ d, s.d = some d → d ∉ t.looks ∧ t.d ≠ some d
  e : ∀ d, t.d = some d → d ∉ s.looks
def Edges (ops : Array Oper) (k j : Nat) : Prop := ∃ o, ops[k]? = some o ∧ ∃ e ∈ o.after, Region.binds .any e = true ∧ e.on = j
/-- One is done ahead of another. -/
inductive Bef (ops : Array Oper) : Nat → Nat → Prop
  | dir {j k : Nat} : Edges ops k j → Bef ops j k
  | tr {j i k : Nat} : Bef ops j i → Edges ops k i → Bef ops j k
def ClosedL (ops : Array Oper) (L : Nat → Bool) : Prop := ∀ k, L k = true → ∀ j, Edges ops k j → L j = true
theorem ClosedL.bef {L : Nat → Bool} (h : ClosedL ops L) {j k : Nat} (hb : Bef ops j k) (hk : ∀ i, Edges ops k i → L i = true) : L j = true := by
  induction hb with
  | dir e => exact hk _ e
  | tr _ e ih => exact ih (h _ (hk _ e))
/-- The state when some steps were done. -/
structure Inv (n k0 : Nat) (X0 : Bool → Nat → Prop) (I0 : Nat → Prop) (w0 : World) (m0 : M) (fr : Frame) (st : Store) (nx : Nat) (l : List Stp) (L : Nat → Bool) (I : Nat → Prop) (w : World) (m : M) (a : Act) : Prop where
  size : a.tmps.size = n
  defers : a.defers = []
  f : FRel I w m (foldF L l 0 fr.get) a
  hs : HS X0 I0 w0 (foldS L l 0 st.get) I w m
  same : Same I0 w0 w
  kept : ∀ i, i < k0 → m.used i ∧ m0.same m i
  lt : ∀ i, m.used i → i < nx ∨ ∃ k, ∃ h : k < l.length, L k = true ∧ l[k].lo ≤ i ∧ i < l[k].hi
structure Plan (P : Program) (n : Nat) (ops : Array Oper) (l : List Stp) : Prop where
  len : l.length = ops.size
  op : ∀ k (h : k < l.length), ops[k]? = some l[k].o ∧ dstOk n l[k].o.dst l[k].d = true
  free : ∀ j k (h1 : j < l.length) (h2 : k < l.length), j < k → Free l[j] l[k] ∨ Bef ops j k
  edge : ∀ k j, Edges ops k j → j < k
theorem split_at (l : List Stp) (i : Nat) (h : i < l.length) : ∃ pre post, l = pre ++ l[i] :: post ∧ pre.length = i := by
  refine ⟨l.take i, l.drop (i + 1), ?_, by simp; omega⟩
  rw [List.getElem_cons_drop h, List.take_append_drop]
theorem inv_step {n k0 : Nat} {m0 : M} {fr fr2 : Frame} {st st2 : Store} {nx nx2 : Nat} {l : List Stp} {L : Nat → Bool} {I : Nat → Prop} {w : World} {m : M} {a : Act} {i : Nat} {Q : Exit → Act → World → Prop} {N : Act → World → Prop}
    (hc : Chain P ops X0 I0 w0 fr st nx l fr2 st2 nx2) (hp : Plan P n ops l) (hL : ClosedL ops L) (hi : i < l.length) (hLi : L i = false) (hr : ∀ j, Edges ops i j → L j = true) (h : Inv n k0 X0 I0 w0 m0 fr st nx l L I w m a)
    (next : ∀ I' w' m' a', Inv n k0 X0 I0 w0 m0 fr st nx l (fun k => if k = i then true else L k) I' w' m' a' → N a' w') : wpOp P ops Q i N a w := by
  obtain ⟨pre, post, hsp, hpl⟩ := split_at l i hi
  have hc' := hc
  rw [hsp] at hc'
  obtain ⟨fri, sti, nxi, fr1, c1, sf, c2⟩ := Chain.split hc'
  have hlen : l.length = pre.length + (post.length + 1) := by rw [hsp]; simp
  have gpre : ∀ j (h : j < pre.length), l[j]'(by omega) = pre[j] := fun j h => by
    have : l[j]? = pre[j]? := by rw [hsp, List.getElem?_append_left h]
    rw [List.getElem?_eq_getElem (by omega), List.getElem?_eq_getElem h] at this
    exact Option.some.inj this
  have gpost : ∀ j (h : j < post.length), l[i + 1 + j]'(by omega) = post[j] := fun j h => by
    have : l[i + 1 + j]? = post[j]? := by
      conv => lhs; rw [hsp]
      rw [List.getElem?_append_right (by omega), show i + 1 + j - pre.length = j + 1 by omega, List.getElem?_cons_succ]
    rw [List.getElem?_eq_getElem (by omega), List.getElem?_eq_getElem h] at this
    exact Option.some.inj this
  -- those ahead that are not done, those behind that are
  have fpre : ∀ j (h : j < pre.length), L j = false → Free pre[j] l[i] := fun j h hj => by
    rcases hp.free j i (by omega) hi (by omega) with k | k
    · rw [gpre j h] at k; exact k
    · have := hL.bef k hr; rw [hj] at this; cases this
  have fpost : ∀ j (h : j < post.length), L (i + 1 + j) = true → Free l[i] post[j] := fun j h hj => by
    rcases hp.free i (i + 1 + j) hi (by omega) (by omega) with k | k
    · rw [gpost j h] at k; exact k
    · have := hL.bef k (fun q hq => hL _ hj q hq); rw [hLi] at this; cases this
  have hpreT : ∀ j (h : j < pre.length), ∀ x ∈ pre[j].T, x ∈ pre[j].W ∧ x < nxi := fun j h x hx => by
    obtain ⟨pre1, post1, e1, e2⟩ := split_at pre j h
    have c1' := c1
    rw [e1] at c1'
    obtain ⟨_, _, nxj, _, q1, q2, q3⟩ := Chain.split c1'
    have := q3.le; have := q2.le
    rcases q2.sub x hx with ⟨r1, r2, r3⟩ | ⟨r1, r2⟩
    · exact ⟨r2, by omega⟩
    · exact ⟨q2.new x r1 r2, by omega⟩
  have hpostT : ∀ j (h : j < post.length), ∀ x ∈ post[j].T, (x ∈ post[j].F ∧ x ∈ post[j].W) ∨ l[i].hi ≤ x := fun j h x hx => by
    obtain ⟨pre1, post1, e1, e2⟩ := split_at post j h
    have c1' := c2
    rw [e1] at c1'
    obtain ⟨_, _, nxj, _, q1, q2, q3⟩ := Chain.split c1'
    have := q1.le
    rcases q2.sub x hx with ⟨r1, r2, r3⟩ | ⟨r1, r2⟩
    · exact .inl ⟨r1, r2⟩
    · exact .inr (by omega)
  have hiT : ∀ x ∈ l[i].T, x ∈ l[i].W ∧ x < l[i].hi := fun x hx => by
    have := sf.le
    rcases sf.sub x hx with ⟨r1, r2, r3⟩ | ⟨r1, r2⟩
    · exact ⟨r2, by omega⟩
    · exact ⟨sf.new x r1 r2, r2⟩
  -- the folds
  have hS : ∀ (L' : Nat → Bool) σ, foldS L' l 0 σ = foldS L' post (i + 1) (if L' i then upd (foldS L' pre 0 σ) l[i].T l[i].st1 else foldS L' pre 0 σ) := fun L' σ => by
    have e : foldS L' l 0 σ = foldS L' (pre ++ l[i] :: post) 0 σ := by rw [← hsp]
    rw [e, foldS_append, Nat.zero_add, hpl]; rfl
  have hF : ∀ (L' : Nat → Bool) φ, foldF L' l 0 φ = foldF L' post (i + 1) (if L' i then (fun x => if l[i].d = some x then l[i].v else foldF L' pre 0 φ x) else foldF L' pre 0 φ) := fun L' φ => by
    have e : foldF L' l 0 φ = foldF L' (pre ++ l[i] :: post) 0 φ := by rw [← hsp]
    rw [e, foldF_append, Nat.zero_add, hpl]; rfl
  have pS : ∀ (L' : Nat → Bool) σ, (∀ j, j < i → L' j = L j) → foldS L' pre 0 σ = foldS L pre 0 σ := by
    have : ∀ (p : List Stp) (L' : Nat → Bool) k σ, (∀ j, j < k + p.length → L' j = L j) → foldS L' p k σ = foldS L p k σ := fun p => by
      induction p with
      | nil => intros; rfl
      | cons s r ih =>
        intro L' k σ hj
        simp only [List.length_cons] at hj
        unfold foldS
        rw [hj k (by omega), ih L' (k + 1) _ fun j hj' => hj j (by omega)]
    exact fun L' σ hj => this pre L' 0 σ fun j h => hj j (by omega)
  have pF : ∀ (L' : Nat → Bool) φ, (∀ j, j < i → L' j = L j) → foldF L' pre 0 φ = foldF L pre 0 φ := by
    have : ∀ (p : List Stp) (L' : Nat → Bool) k φ, (∀ j, j < k + p.length → L' j = L j) → foldF L' p k φ = foldF L p k φ := fun p => by
      induction p with
      | nil => intros; rfl
      | cons s r ih =>
        intro L' k φ hj
        simp only [List.length_cons] at hj
        unfold foldF
        rw [hj k (by omega), ih L' (k + 1) _ fun j hj' => hj j (by omega)]
    exact fun L' φ hj => this pre L' 0 φ fun j h => hj j (by omega)
  have qS : ∀ (L' : Nat → Bool) (p : List Stp) k σ σ' x, (∀ j, k ≤ j → L' j = L j) → σ x = σ' x → foldS L' p k σ x = foldS L p k σ' x := fun L' p => by
    induction p with
    | nil => intro k σ σ' x _ e; exact e
    | cons s r ih =>
      intro k σ σ' x hj e
      unfold foldS
      rw [hj k (Nat.le_refl _)]
      refine ih (k + 1) _ _ x (fun j h => hj j (by omega)) ?_
      cases L k with
      | true => simp only [if_true]; unfold upd; rw [e]
      | false => exact e
  have qF : ∀ (L' : Nat → Bool) (p : List Stp) k φ φ' x, (∀ j, k ≤ j → L' j = L j) → φ x = φ' x → foldF L' p k φ x = foldF L p k φ' x := fun L' p => by
    induction p with
    | nil => intro k φ φ' x _ e; exact e
    | cons s r ih =>
      intro k φ φ' x hj e
      unfold foldF
      rw [hj k (Nat.le_refl _)]
      refine ih (k + 1) _ _ x (fun j h => hj j (by omega)) ?_
      cases L k with
      | true => simp only [if_true]; rw [e]
      | false => exact e
  have hLne : ∀ j, j ≠ i → (if j = i then true else L j) = L j := fun j h => if_neg h
  -- what it looks at is as it was
  have hlook : ∀ x ∈ l[i].looks, RV I w m (fri.get x) (a.tmps.getD x undef) := fun x hx => by
    have hf := h.f x
    rw [hF L, hLi, if_neg (by simp), foldF_skip (fun j hj hj' e => (fpost j hj hj').e x e hx)] at hf
    exact foldF_agree c1 (fun j hj hj' e => by rw [Nat.zero_add] at hj'; exact ((fpre j hj hj').c x e).1 hx) (Imp.refl _) hf
  have hfoot : ∀ x ∈ l[i].F, foldS L l 0 st.get x = sti.get x := fun x hx => by
    rw [hS L, hLi, if_neg (by simp), foldS_skip (fun j hj hj' hT => by
      rcases hpostT j hj x hT with ⟨_, k⟩ | k
      · exact (fpost j hj hj').b x hx k
      · -- new behind: then it is no old thing
        exact absurd k (by
          have : x < l[i].hi ∨ l[i].hi ≤ x := Nat.lt_or_ge _ _
          rcases this with h | h
          · omega
          · exact fun _ => by
              have hW := (show x ∈ post[j].W from by
                obtain ⟨pre1, post1, e1, e2⟩ := split_at post j hj
                have c1' := c2
                rw [e1] at c1'
                obtain ⟨_, _, nxj, _, q1, q2, q3⟩ := Chain.split c1'
                rcases q2.sub x hT with ⟨r1, r2, r3⟩ | ⟨r1, r2⟩
                · exact r2
                · exact q2.new x r1 r2)
              exact (fpost j hj hj').b x hx hW))]
    exact foldS_agree c1 (fun j hj hj' hT => by rw [Nat.zero_add] at hj'; exact (fpre j hj hj').a x (hpreT j hj x hT).1 hx) rfl
  have hnew : ∀ x, nxi ≤ x → x < l[i].hi → ¬ m.used x := fun x h1 h2 hu => by
    have hnx : nx ≤ nxi := c1.le
    rcases h.lt x hu with h3 | ⟨k, hk, hLk, h3, h4⟩
    · omega
    · rcases Nat.lt_trichotomy k i with hki | hki | hki
      · have hk' : k < pre.length := by omega
        have e := gpre k hk'
        rw [e] at h4
        have := (c1.ge pre[k] (List.getElem_mem hk')).2
        omega
      · subst hki; rw [hLi] at hLk; cases hLk
      · have hk' : k - (i + 1) < post.length := by omega
        have e := gpost (k - (i + 1)) hk'
        simp only [show i + 1 + (k - (i + 1)) = k by omega] at e
        rw [e] at h3
        have := (c2.ge _ (List.getElem_mem hk')).1
        omega
  have hop := hp.op i hi
  unfold wpOp
  rw [hop.1]
  simp only []
  have key := sf.run (σ := foldS L l 0 st.get) (a := a) N Q hlook h.hs hfoot hnew fun cv I' w' m' hg => by
    obtain ⟨g1, g2, g3, g4⟩ := hg
    refine next I' w' m' _ ⟨?_, ?_, fun x => ?_, ?_, fun b hb => (g3.same b (h.hs.Isub b hb)).trans (h.same b hb), fun x hx => ⟨g3.m.1 x (h.kept x hx).1, M.same_trans (h.kept x hx).2 (g3.m.2 x (h.kept x hx).1)⟩, fun x hx => ?_⟩
    · have hd := hop.2
      cases hdo : l[i].o.dst with
      | none => exact h.size
      | some d => simp only [Act.put, Array.size_setIfInBounds]; exact h.size
    · cases hdo : l[i].o.dst with
      | none => exact h.defers
      | some d => exact h.defers
    · have hd := hop.2
      have base : RV I' w' m' (foldF L l 0 fr.get x) (a.tmps.getD x undef) := g3.rv (h.f x)
      have other : l[i].d ≠ some x → foldF (fun k => if k = i then true else L k) l 0 fr.get x = foldF L l 0 fr.get x := fun hne => by
        rw [hF, hF L, hLi, if_pos (by simp), if_neg (by simp), pF _ _ fun j hj => hLne j (by omega)]
        exact qF _ post (i + 1) _ _ x (fun j hj => hLne j (by omega)) (if_neg hne)
      cases hdo : l[i].o.dst with
      | none =>
        rw [hdo] at hd
        cases hdd : l[i].d with
        | some d => rw [hdd] at hd; cases hd
        | none => rw [other (by rw [hdd]; intro h; cases h)]; exact base
      | some d =>
        rw [hdo] at hd
        cases hdd : l[i].d with
        | none => rw [hdd] at hd; cases hd
        | some d' =>
          rw [hdd] at hd
          simp only [dstOk, Bool.and_eq_true, beq_iff_eq, decide_eq_true_eq] at hd
          obtain ⟨rfl, hd⟩ := hd
          rw [getD_put (by rw [h.size]; exact hd)]
          split
          · rename_i e; subst e
            rw [hF, if_pos (by simp), foldF_skip (fun j hj hj' e => by
              rw [hLne _ (by omega)] at hj'
              exact ((fpost j hj hj').c x hdd).2 e)]
            simp only [hdd, if_true]; exact g1
          · rename_i e
            rw [other (by rw [hdd]; intro h; cases h; exact e rfl)]; exact base
    · have : foldS (fun k => if k = i then true else L k) l 0 st.get = upd (foldS L l 0 st.get) l[i].T l[i].st1 := funext fun x => by
        by_cases hx : x ∈ l[i].T
        · rw [upd_in hx, hS, if_pos (by simp), foldS_skip (fun j hj hj' hT => by
            rw [hLne _ (by omega)] at hj'
            rcases hpostT j hj x hT with ⟨k, _⟩ | k
            · exact (fpost j hj hj').a x (hiT x hx).1 k
            · have := (hiT x hx).2; omega), upd_in hx]
        · rw [upd_out hx, hS, hS L, hLi, if_pos (by simp), if_neg (by simp), pS _ _ fun j hj => hLne j (by omega)]
          exact qS _ post (i + 1) _ _ x (fun j hj => hLne j (by omega)) (upd_out hx)
      rw [this]; exact g2
    · rcases g4 x hx with h' | h'
      · rcases h.lt x h' with h' | ⟨k, hk, hLk, h3, h4⟩
        · exact .inl h'
        · refine .inr ⟨k, hk, ?_, h3, h4⟩
          split
          · rfl
          · exact hLk
      · exact .inr ⟨i, hi, by simp, by rw [sf.lo]; exact h'.1, h'.2⟩
  split
  · rename_i hw; rw [if_pos hw] at key; exact .inl key
  · rename_i hw; rw [if_neg hw] at key; exact key
end
end Go.Eng
