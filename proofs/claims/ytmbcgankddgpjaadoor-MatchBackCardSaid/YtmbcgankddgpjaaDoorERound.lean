/- The engine: Round. No condition. -/
import Derived.Test.YtmbcgankddgpjaaDoorEDraw2
import Derived.RangeFuncLeaves
import Derived.RangeFuncRecord
import Derived.OrdersIn
import Derived.TacticsIn
import Derived.LoopNIn
import Derived.Scope
namespace Go.Eng
set_option linter.unusedVariables false
set_option linter.unusedSimpArgs false
open Go.RowKit
def fen (r : Option Nat) : Fence := { fn := fun _ => True, depth := none, alive := false, round := r }
def ndO (o : Oper) : Bool := match o.op with | .defer _ => false | _ => true
theorem ndO_of {o : Oper} (h : ndO o = true) : ∀ c, o.op ≠ .defer c := fun c e => by unfold ndO at h; rw [e] at h; cases h
section
variable {P : Program} {r : Option Nat} {j : Nat}
theorem callsIn_fen {f : FuncId} {args : Array Value} {w : World} {R : Ending → World → Prop} (h : Calls P f args w R) : CallsIn (fen r) j P f args w R := (callsIn_wide (n := j)).2 h
theorem rowsIn_fen {row : String} {args : Array Value} {w : World} {R : Value → World → Prop} (h : Rows P row args w R) : RowsIn (fen r) j P row args w R :=
  fun c cs _ => let ⟨v, w', a, s⟩ := h c cs; ⟨v, w', a, stepsIn_wide.2 s⟩
theorem op_in {o : Oper} {a : Act} {w : World} {N N' : Act → World → Prop} {Q Q' : Exit → Act → World → Prop} (hd : ∀ c, o.op ≠ .defer c) (hN : ∀ a w, N a w → N' a w) (hQ : ∀ e a w, e ≠ .normal → Q e a w → Q' e a w) (h : o.wp P a w N Q) : o.wpIn (fen r) j P a w N' Q' := by
  refine ⟨fun _ _ => trivial, ?_⟩
  show Oper.uponIn (fen r) j P o a N' Q' ((o.semAt r a.eval).run P w)
  rw [Oper.semAt_eq _ _ _ hd]
  unfold Oper.wp at h
  generalize (execOp a.eval o).run P w = res at h ⊢
  cases res with
  | ok x w' =>
    cases x with
    | value v => exact hN _ _ h
    | skip => exact hN _ _ h
    | defer d => exact hN _ _ h
    | enter f args =>
      refine ⟨fun hq => (by cases hq), (callsIn_fen h).mono fun e w'' he => ?_⟩
      cases e with
      | returned v => exact hN _ _ he
      | panicked ch => exact hQ _ _ _ (by simp) he
      | outgrown => obtain ⟨a0, w0, h0⟩ := he; exact ⟨a0, w0, hQ _ _ _ (by simp) h0⟩
    | row row args => exact ⟨fun hq => (by cases hq), (rowsIn_fen h).mono fun _ _ he => hN _ _ he⟩
    | _ => exact h.elim
  | halt x w' => cases x <;> first | exact hQ _ _ _ (by simp) h | exact h.elim
theorem list_in {ops : Array Oper} {Q Q' : Exit → Act → World → Prop} {rest : List Oper} (hL : ¬ LetsOut Q) (hQ : ∀ e a w, e ≠ .normal → Q e a w → Q' e a w) (hN : ∀ a w, Q .normal a w → wpListIn (fen r) j P ops Q' rest a w) :
    ∀ {os : List Oper} {a : Act} {w : World}, os.all ndO = true → wpList P ops Q os a w → wpListIn (fen r) j P ops Q' (os ++ rest) a w
  | [], a, w, _, h => hN _ _ h
  | o :: os, a, w, hd, h => by
    simp only [List.all_cons, Bool.and_eq_true] at hd
    unfold wpList at h
    rw [List.cons_append]
    unfold wpListIn
    split
    · rename_i hw
      rw [if_pos hw] at h
      rcases h with h | h
      · exact op_in (ndO_of hd.1) (fun a w h => list_in hL hQ hN hd.2 h) hQ h
      · exact absurd h.2 hL
    · rename_i hw
      rw [if_neg hw] at h
      exact ⟨fun _ _ => trivial, list_in hL hQ hN hd.2 h⟩
theorem any_in {ops : Array Oper} {Q : Exit → Act → World → Prop} {md : Region.Mode} (hL : ¬ LetsOut Q) (hd : ops.toList.all ndO = true) :
    ∀ {fuel : Nat} {listed : Array Bool} {a : Act} {w : World}, wpAny P md ops Q fuel listed a w → wpAnyIn (fen r) j P md ops Q fuel listed a w
  | 0, _, _, _, h => h
  | fuel + 1, listed, a, w, h => by
    refine ⟨h.1, fun i hi => ?_⟩
    have h := h.2 i hi
    unfold wpOp at h
    unfold wpOpIn
    split
    · rename_i ho; rw [ho] at h; exact any_in hL hd h
    · rename_i o ho
      rw [ho] at h
      have hdo : ndO o = true := by
        rw [List.all_eq_true] at hd
        exact hd o (Array.mem_toList_iff.2 (Array.mem_of_getElem? ho))
      simp only [] at h
      split
      · rename_i hw
        rw [if_pos hw] at h
        rcases h with h | h
        · exact op_in (ndO_of hdo) (fun a w h => any_in hL hd h) (fun _ _ _ _ h => h) h
        · exact absurd h.2 hL
      · rename_i hw
        rw [if_neg hw] at h
        exact ⟨fun _ _ => trivial, any_in hL hd h⟩
end
def XF (m : M) (os : List Obj) : Bool → Nat → Prop := fun b => match b with | true => XL m os | false => fun b => ∃ i o, os[i]? = some o ∧ o.live = true ∧ m.blk i = some b
section
variable {n n' k0 : Nat} {X0 : Bool → Nat → Prop} {I0 I I' : Nat → Prop} {w0 w w' : World} {m0 m m' : M} {fr fr' : Frame} {st : Store} {nx : Nat} {os : List Obj} {a a' : Act}
theorem Sta.fresh (h : Sta n k0 X0 I0 w0 m0 fr (mkSt 0 os) os.length I w m a) (hsz : a'.tmps.size = n') (hd : a'.defers = []) (hf : FRel I w m fr'.get a') :
    Sta n' os.length (XF m os) I w m fr' (mkSt 0 os) os.length I w m a' := by
  refine ⟨hsz, by rw [hd]; exact DefOk.nil _ _ _, hf, ⟨h.hs.H, Fr.refl _ _, fun _ h => h, fun _ h => .inl h, fun i o b e hm hb => ?_, fun i o b e hm hb => ?_⟩, fun _ _ => rfl, fun i hi => ⟨h.hs.H.lt i ?_, M.same_refl _ _⟩, h.lt⟩
  · rw [mkSt_ofL] at e; exact .inl ⟨i, o, e, hm, hb⟩
  · rw [mkSt_ofL] at e; exact .inl ⟨i, o, e, hm, hb⟩
  · rw [mkSt_ofL]; unfold ofL; rw [List.getElem?_eq_getElem hi]; intro h; cases h
theorem Sta.back (hA : Sta n k0 X0 I0 w0 m0 fr (mkSt 0 os) os.length I w m a) (hB : Sta n' os.length (XF m os) I w m fr' st nx I' w' m' a') : Sta n k0 X0 I0 w0 m0 fr st nx I' w' m' a := by
  have hm : m.le m' := ⟨fun i hi => (hB.kept i (hA.lt i hi)).1, fun i hi => (hB.kept i (hA.lt i hi)).2⟩
  have E : Evo I w m I' w' m' := ⟨hB.hs.Isub, hB.same, hm⟩
  refine ⟨hA.size, hA.defers.evo E.up E.same, hA.f.evo E, ⟨hB.hs.H, hA.hs.fr0.trans hB.hs.fr0 (fun i hi hX => ?_), fun b hb => E.up b (hA.hs.Isub b hb), fun b hb => ?_, fun i o b e hm hb => ?_, fun i o b e hm hb => ?_⟩,
    fun b hb => (E.same b (hA.hs.Isub b hb)).trans (hA.same b hb), fun i hi => ⟨hm.1 i (hA.kept i hi).1, M.same_trans (hA.kept i hi).2 (hm.2 i (hA.kept i hi).1)⟩, hB.lt⟩
  · obtain ⟨k, o, h1, h2, h3⟩ := (hX : XL m os i)
    rcases hA.hs.own k o i (by rw [mkSt_ofL]; exact h1) h2 h3 with h | h
    · exact h
    · omega
  · rcases hB.hs.Inew b hb with h | h | h
    · exact hA.hs.Inew b h
    · exact .inr (.inl (Nat.le_trans hA.hs.fr0.size h))
    · obtain ⟨k, o, h1, h2, h3⟩ := (h : XL m os b)
      rcases hA.hs.own k o b (by rw [mkSt_ofL]; exact h1) h2 h3 with h | h
      · exact .inr (.inr h)
      · exact .inr (.inl h)
  · rcases hB.hs.own i o b e hm hb with h | h
    · obtain ⟨k, o, h1, h2, h3⟩ := (h : XL _ os b)
      exact hA.hs.own k o b (by rw [mkSt_ofL]; exact h1) h2 h3
    · exact .inr (Nat.le_trans hA.hs.fr0.size h)
  · rcases hB.hs.ownL i o b e hm hb with h | h
    · obtain ⟨k, o, h1, h2, h3⟩ := (h : ∃ (i : Nat) (o : Obj), os[i]? = some o ∧ o.live = true ∧ m.blk i = some b)
      exact hA.hs.ownL k o b (by rw [mkSt_ofL]; exact h1) h2 h3
    · exact .inr (Nat.le_trans hA.hs.fr0.size h)
theorem putObj_fr (w : World) (l : Nat) (o : Go.Obj) : Fr (fun b => b = l) w (w.putObj l o) :=
  ⟨rfl, rfl, rfl, by simp, fun k _ hk => World.putObj_heap_other hk⟩
theorem Sta.turn (h : Sta n k0 X0 I0 w0 m0 fr st nx I w m a) {i : Nat} {r : Go.Loop} {c l : Nat} (hi : st.get i = some (.lrec r c)) (hl : m.blk i = some l) {o' : Obj} {x : Go.Loop}
    (ho : o' = .dead ∨ ∃ c', o' = .lrec r c' ∧ x = recAt r c') : Sta n k0 X0 I0 w0 m0 fr (st.set i o') nx I (w.putObj l (.loop x)) m a := by
  obtain ⟨b, q1, q2⟩ := h.hs.H.obj i _ hi
  rw [hl] at q1; cases q1
  have hlt := lt_of_get q2
  have hne : ∀ b, I b → b ≠ l := fun b hb e => by subst e; exact h.hs.H.notI i _ _ hi rfl hl hb
  have hsame : Same I w (w.putObj l (.loop x)) := fun b hb => World.putObj_heap_other (hne b hb)
  have E : Evo I w m I (w.putObj l (.loop x)) m := ⟨fun _ h => h, hsame, m.le_refl⟩
  have hg : ∀ k, (st.set i o').get k = if k = i then some o' else st.get k := fun k => Store.get_set st i o' k
  refine h.evo (hs' := ?_) E (Nat.le_refl _) (fun _ h => .inl h)
  refine h.hs.step E (· = i) (fun k hk => by rw [hg, if_neg hk]) ?_ (fun b hb => .inl hb) (fun b hb => Nat.lt_of_lt_of_le (h.hs.H.Ilt b hb) (by simp)) ?_ ?_ ?_ ?_ ?_
  · refine (putObj_fr w l _).weak fun b hb => ⟨i, _, rfl, hi, rfl, ?_⟩
    subst hb; exact hl
  · rintro k o rfl e
    rw [hg, if_pos rfl] at e; cases e
    refine ⟨h.hs.H.lt _ (by rw [hi]; intro h; cases h), ?_⟩
    rcases ho with rfl | ⟨c', rfl, rfl⟩
    · trivial
    · exact ⟨l, hl, World.putObj_heap_same hlt⟩
  · rintro k o b rfl e hlv hb'
    exact .inr ⟨_, _, rfl, hi, rfl, fun _ => rfl, hb'⟩
  · rintro k k' o o'' b rfl rfl _ _ _ _ _ _; rfl
  · rintro k o b rfl e hm hb' hI
    rw [hl] at hb'; cases hb'
    exact hne _ hI rfl
  · rintro k t y b rfl e hb'
    rw [hg, if_pos rfl] at e
    rcases ho with rfl | ⟨c', rfl, rfl⟩ <;> cases e
theorem recAt_end (r : Go.Loop) (c : Nat) (jump : Option Code) : ({ recAt r c with state := if jump.isNone then .ready else .done, pending := jump } : Go.Loop) = { r with state := if jump.isNone then .ready else .done, pending := jump } := by
  match c with
  | 0 => rfl
  | 1 => rfl
  | 2 => rfl
  | _ + 3 => rfl
theorem RC_keep {I : Nat → Prop} {w w' : World} (hk : ∀ b o v, w.cell? ⟨b, o, none⟩ = some v → w'.cell? ⟨b, o, none⟩ = some v) : ∀ (t : Ty) (x : t.den) (cs : List Value), RC I w t x cs → RC I w' t x cs
  | .int _, _, _, h => by simpa only [RC] using h
  | .bool, _, _, h => by simpa only [RC] using h
  | .str, _, _, h => by simpa only [RC] using h
  | .nil, _, _, h => by simpa only [RC] using h
  | .cons a b, x, cs, h => by
    simp only [RC] at h ⊢
    obtain ⟨c1, c2, rfl, h1, h2⟩ := h
    exact ⟨c1, c2, rfl, RC_keep hk a _ _ h1, RC_keep hk b _ _ h2⟩
  | .sl t, l, cs, h => by
    simp only [RC] at h ⊢
    obtain ⟨ao, len, cap, rfl, h1, h2, h3, h4⟩ := h
    refine ⟨ao, len, cap, rfl, h1, h2, h3, fun h0 => ?_⟩
    obtain ⟨b, o, rfl, hb, h5⟩ := h4 h0
    refine ⟨b, o, rfl, hb, fun i hi => ?_⟩
    obtain ⟨es, he, hc⟩ := h5 i hi
    exact ⟨es, RC_keep hk t _ _ he, fun j hj => hk _ _ _ (hc j hj)⟩
theorem RV0_keep {I : Nat → Prop} {w w' : World} {m : M} (hk : ∀ b o v, w.cell? ⟨b, o, none⟩ = some v → w'.cell? ⟨b, o, none⟩ = some v) {u : AV} {v : Value} (h : RV0 I w m u v) : RV0 I w' m u v := by
  cases u with
  | imm t x =>
    obtain ⟨ao, len, cap, rfl, h⟩ := h
    have := RC_keep hk (.sl t) x _ (RC_sl.2 ⟨ao, len, cap, rfl, h⟩)
    obtain ⟨ao', len', cap', he, h'⟩ := RC_sl.1 this
    exact ⟨ao', len', cap', by simpa using he, h'⟩
  | iptr t x i off =>
    obtain ⟨b, o, rfl, hb, hi, h⟩ := h
    refine ⟨b, o, rfl, hb, hi, fun i hi => ?_⟩
    obtain ⟨es, he, hc⟩ := h i hi
    exact ⟨es, RC_keep hk t _ _ he, fun j hj => hk _ _ _ (hc j hj)⟩
  | _ => exact h
theorem RVL0_keep {I : Nat → Prop} {w w' : World} {m : M} (hk : ∀ b o v, w.cell? ⟨b, o, none⟩ = some v → w'.cell? ⟨b, o, none⟩ = some v) : ∀ {u : List AV} {v : List Value}, RVL0 I w m u v → RVL0 I w' m u v
  | [], [], _ => trivial
  | _ :: _, _ :: _, h => ⟨RV0_keep hk h.1, RVL0_keep hk h.2⟩
  | [], _ :: _, h => h.elim
  | _ :: _, [], h => h.elim
theorem RV1_keep {I : Nat → Prop} {w w' : World} {m : M} (hk : ∀ b o v, w.cell? ⟨b, o, none⟩ = some v → w'.cell? ⟨b, o, none⟩ = some v) {u : AV} {v : Value} (h : RV1 I w m u v) : RV1 I w' m u v := by
  rcases RV1_cases h with h' | ⟨l, cs, rfl, rfl, h'⟩
  · exact RV1_of (RV0_keep hk h')
  · exact ⟨cs, rfl, RVL0_keep hk h'⟩
theorem RVL1_keep {I : Nat → Prop} {w w' : World} {m : M} (hk : ∀ b o v, w.cell? ⟨b, o, none⟩ = some v → w'.cell? ⟨b, o, none⟩ = some v) : ∀ {u : List AV} {v : List Value}, RVL1 I w m u v → RVL1 I w' m u v
  | [], [], _ => trivial
  | _ :: _, _ :: _, h => ⟨RV1_keep hk h.1, RVL1_keep hk h.2⟩
  | [], _ :: _, h => h.elim
  | _ :: _, [], h => h.elim
theorem RV_keep {I : Nat → Prop} {w w' : World} {m : M} (hk : ∀ b o v, w.cell? ⟨b, o, none⟩ = some v → w'.cell? ⟨b, o, none⟩ = some v) {u : AV} {v : Value} (h : RV I w m u v) : RV I w' m u v := by
  rcases RV_cases h with rfl | ⟨rfl, rfl⟩ | h' | ⟨l, cs, rfl, rfl, h'⟩
  · trivial
  · rfl
  · refine RV_of ?_
    rcases RV2_cases h' with h' | ⟨f, l, c, fs, cs, rfl, rfl, h', h''⟩
    · exact RV2_of (RV1_keep hk h')
    · exact ⟨fs, cs, rfl, RVL1_keep hk h', RVL1_keep hk h''⟩
  · exact ⟨cs, rfl, RVL1_keep hk h'⟩
theorem Elems_keep {I : Nat → Prop} {w w' : World} (hk : ∀ b o v, w.cell? ⟨b, o, none⟩ = some v → w'.cell? ⟨b, o, none⟩ = some v) {t : Ty} {x : List t.den} {cs : Array Value} (h : Elems I w t x cs) : Elems I w' t x cs := fun i hi => by
  obtain ⟨es, h1, h2⟩ := h i hi
  exact ⟨es, RC_keep hk t _ _ h1, h2⟩
theorem ObjOk_keep {I : Nat → Prop} {w w' : World} {m : M} (hk : ∀ b o v, w.cell? ⟨b, o, none⟩ = some v → w'.cell? ⟨b, o, none⟩ = some v) (hh : ∀ (b : Nat) (x : Go.Obj), (∀ ds, x ≠ Go.Obj.deferred ds) → w.heap[b]? = some x → w'.heap[b]? = some x) {i : Nat} {o : Obj} (h : ObjOk I w m i o) : ObjOk I w' m i o := by
  cases o with
  | dead => trivial
  | box l => obtain ⟨b, cs, T, fz, h1, h2, h3, h4⟩ := h; exact ⟨b, cs, T, fz, h1, hh _ _ (fun _ h => by cases h) h2, h3, RVL0_keep hk h4⟩
  | row fz t x =>
    obtain ⟨h1, h2, h3, h4, h5⟩ := h
    refine ⟨h1, h2, h3, h4, h5.imp id ?_⟩
    rintro ⟨b, cs, T, f, k1, k2, k3, k4, k5⟩
    exact ⟨b, cs, T, f, k1, hh _ _ (fun _ h => by cases h) k2, k3, k4, Elems_keep hk k5⟩
  | map q kt vt l =>
    obtain ⟨b, es, c, h1, h2, h3⟩ := h
    exact ⟨b, es, c, h1, hh _ _ (fun _ h => by cases h) h2, h3.1, fun i a b => ⟨⟨RC_keep hk _ _ _ (h3.2.1 i a b).1.1, (h3.2.1 i a b).1.2⟩, ⟨RC_keep hk _ _ _ (h3.2.1 i a b).2.1, (h3.2.1 i a b).2.2⟩⟩, h3.2.2⟩
  | iter s p => obtain ⟨b, t, h1, h2, h3⟩ := h; exact ⟨b, t, h1, hh _ _ (fun _ h => by cases h) h2, h3⟩
  | lrec r c => obtain ⟨b, h1, h2⟩ := h; exact ⟨b, h1, hh _ _ (fun _ h => by cases h) h2⟩
theorem Sta.shut (h : Sta n k0 X0 I0 w0 m0 fr st nx I w m a) {D : Nat} (h0 : w0.heap.size ≤ D) (hD : w.heap[D]? = some (.deferred (some []))) (hI0 : ∀ b, I0 b → b < w0.heap.size) {ds : List Deferred}
    (hds : ds.Nodup ∧ ∀ d ∈ ds, ∃ D', d = { target := .collected D', args := #[] } ∧ D' ≠ D ∧ I D' ∧ w0.heap.size ≤ D' ∧ w.heap[D']? = some (.deferred (some []))) :
    Sta n k0 X0 I0 w0 m0 fr st nx I (w.putObj D (.deferred none)) m { a with defers := ds } := by
  have other : ∀ b, b ≠ D → (w.putObj D (.deferred none)).heap[b]? = w.heap[b]? := fun b hb => World.putObj_heap_other hb
  have hk : ∀ b o v, w.cell? ⟨b, o, none⟩ = some v → (w.putObj D (.deferred none)).cell? ⟨b, o, none⟩ = some v := fun b o v hv => by
    have hb : b ≠ D := fun e => by subst e; simp [World.cell?, hD] at hv
    simp only [World.cell?, other b hb] at hv ⊢; exact hv
  have hh : ∀ (b : Nat) (x : Go.Obj), (∀ ds, x ≠ Go.Obj.deferred ds) → w.heap[b]? = some x → (w.putObj D (.deferred none)).heap[b]? = some x := fun b x hx he => by
    have hb : b ≠ D := fun e => by subst e; rw [hD] at he; cases he; exact hx _ rfl
    rw [other b hb]; exact he
  refine ⟨h.size, ⟨hds.1, fun d hd => ?_⟩, fun i => RV_keep hk (h.f i), ⟨⟨h.hs.H.lt, fun i o e => ObjOk_keep hk hh (h.hs.H.obj i o e), h.hs.H.inj, h.hs.H.notI, h.hs.H.isI, fun b hb => Nat.lt_of_lt_of_le (h.hs.H.Ilt b hb) (by simp)⟩, ?_, h.hs.Isub, h.hs.Inew, h.hs.own, h.hs.ownL⟩, fun b hb => ?_, h.kept, h.lt⟩
  · obtain ⟨D', e, h1, h2, h3, h4⟩ := hds.2 d hd
    exact ⟨D', e, h2, h3, (other D' h1).trans h4⟩
  · exact h.hs.fr0.trans (putObj_fr w D _) fun i hi e => by omega
  · have := hI0 b hb
    rw [other b (by omega)]; exact h.same b hb
theorem leaves_marks {P : Program} {F : Fence} {j : Nat} {fn : Func} {R : Ending → World → Prop} (hI0 : ∀ b, I0 b → b < w0.heap.size)
    (fin : ∀ w'' a'', a''.tmps = a.tmps → Sta n k0 X0 I0 w0 m0 fr st nx I w'' m a'' → ∃ v, (results fn a.tmps).run P w'' = .ok v w'' ∧ R (.returned v) w'') :
    ∀ (ds : List Deferred) (w : World) (a' : Act), a'.tmps = a.tmps → a'.defers = ds → Sta n k0 X0 I0 w0 m0 fr st nx I w m a' → LeavesInM F j P fn a.tmps R ds .returning w
  | [], w, a', ht, hd, h => fin w a' ht h
  | d :: ds, w, a', ht, hd, h => by
    have hD := h.defers
    rw [hd] at hD
    obtain ⟨D, rfl, h1, h2, h3⟩ := hD.2 d (List.mem_cons_self ..)
    refine ⟨by simp, .inl ⟨D, _, rfl, run_takeDeferred h3, ?_⟩⟩
    refine leaves_marks hI0 fin ds _ { a' with defers := ds } ht rfl (h.shut h2 h3 hI0 ⟨(List.nodup_cons.1 hD.1).2, fun d' hd' => ?_⟩)
    obtain ⟨D', e, g1, g2, g3⟩ := hD.2 d' (List.mem_cons_of_mem _ hd')
    refine ⟨D', e, fun e' => ?_, g1, g2, g3⟩
    subst e'; subst e
    exact (List.nodup_cons.1 hD.1).1 hd'
theorem Sta.enter (h : Sta n k0 X0 I0 w0 m0 fr (mkSt 0 os) os.length I w m a) {lr : Go.Loop} (hlr : recAt lr 0 = lr) :
    Sta n k0 X0 I0 w0 m0 fr (mkSt 0 (os ++ [.lrec lr 0])) (os.length + 1) (fun b => I b ∨ b = w.heap.size) ((w.alloc (.deferred (some []))).alloc (.loop lr)) (m.push os.length (some (w.heap.size + 1)) 0 0 0)
      { a with defers := { target := .collected w.heap.size, args := #[] } :: a.defers } := by
  have hnu : ¬ m.used os.length := fun hu => by have := h.lt _ hu; omega
  obtain ⟨w1, hw1⟩ : ∃ w1, (w.alloc (.deferred (some []))).alloc (.loop lr) = w1 := ⟨_, rfl⟩
  rw [hw1]
  have hsz : w1.heap.size = w.heap.size + 2 := by rw [← hw1, World.size_alloc, World.size_alloc]
  have hL : w1.heap[w.heap.size + 1]? = some (.loop lr) := by
    rw [← hw1]; have := World.alloc_heap_new (w.alloc (.deferred (some []))) (.loop lr); rwa [World.size_alloc] at this
  have hD : w1.heap[w.heap.size]? = some (.deferred (some [])) := by
    rw [← hw1]; exact (Below.heap_alloc _ _ _ (by simp)).trans (World.alloc_heap_new w _)
  have hold : ∀ b, b < w.heap.size → w1.heap[b]? = w.heap[b]? := fun b hb => by
    rw [← hw1]; exact (Below.heap_alloc _ _ _ (by simp; omega)).trans (Below.heap_alloc _ _ _ hb)
  have hfr : ∀ X, Fr X w w1 := fun X => by rw [← hw1]; exact (Fr.alloc X w _).trans (Fr.alloc X _ _) fun _ _ h => h
  have E : Evo I w m (fun b => I b ∨ b = w.heap.size) w1 (m.push os.length (some (w.heap.size + 1)) 0 0 0) := ⟨fun _ h => .inl h, fun b hb => hold b (h.hs.H.Ilt b hb), M.push_le hnu⟩
  have hg : ∀ i, (mkSt 0 (os ++ [.lrec lr 0])).get i = if i = os.length then some (.lrec lr 0) else (mkSt 0 os).get i := fun i => by
    rw [mkSt_ofL, mkSt_ofL]; unfold ofL
    split
    · rename_i e; subst e; simp
    · rename_i e
      rcases Nat.lt_or_ge i os.length with hlt | hge
      · rw [List.getElem?_append_left hlt]
      · rw [List.getElem?_eq_none (by simp; omega), List.getElem?_eq_none hge]
  have hS : HS X0 I0 w0 (mkSt 0 (os ++ [.lrec lr 0])).get (fun b => I b ∨ b = w.heap.size) w1 (m.push os.length (some (w.heap.size + 1)) 0 0 0) := by
    refine h.hs.step E (· = os.length) (fun i hi => by rw [hg, if_neg hi]) (hfr _) (fun b hb => ?_) (fun b hb => ?_) ?_ ?_ ?_ ?_ ?_
    · rcases hb with hb | hb
      · exact .inl hb
      · exact .inr (.inl (by omega))
    · rcases hb with hb | hb
      · have := h.hs.H.Ilt b hb; omega
      · omega
    · rintro i o rfl e
      rw [hg, if_pos rfl] at e; cases e
      exact ⟨.inr rfl, _, M.push_blk _ _ _ _ _ _, by rw [hlr]; exact hL⟩
    · rintro i o b rfl e _ hb
      rw [M.push_blk] at hb; cases hb
      exact .inl (by omega)
    · rintro i k o o' b rfl rfl _ _ _ _ _ _; rfl
    · rintro i o b rfl e _ hb hI
      rw [M.push_blk] at hb; cases hb
      rcases hI with hI | hI
      · have := h.hs.H.Ilt _ hI; omega
      · omega
    · rintro i t x b rfl e
      rw [hg, if_pos rfl] at e; cases e
  refine ⟨h.size, ⟨List.nodup_cons.2 ⟨fun hm => ?_, h.defers.1⟩, fun d hd => ?_⟩, h.f.evo E, hS, fun b hb => (E.same b (h.hs.Isub b hb)).trans (h.same b hb), fun i hi => ⟨E.m.1 i (h.kept i hi).1, M.same_trans (h.kept i hi).2 (E.m.2 i (h.kept i hi).1)⟩, fun i hi => ?_⟩
  · obtain ⟨D, e, h1, _, _⟩ := h.defers.2 _ hm
    simp only [Deferred.mk.injEq, Target.collected.injEq] at e
    have := h.hs.H.Ilt D h1; omega
  · rcases List.mem_cons.1 hd with rfl | hd
    · exact ⟨_, rfl, .inr rfl, h.hs.fr0.size, hD⟩
    · exact (h.defers.evo E.up E.same).2 d hd
  · rcases hi with hi | hi
    · have := h.lt i hi; omega
    · omega
end
end Go.Eng
