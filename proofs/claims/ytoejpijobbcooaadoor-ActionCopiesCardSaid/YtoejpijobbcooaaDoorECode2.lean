/- Code that passes the check does what the small language says. No condition. -/
import Derived.Test.YtoejpijobbcooaaDoorEDraw2
namespace Go.Eng
set_option linter.unusedVariables false
set_option linter.unusedSimpArgs false
open Go.RowKit
def codeOk (P : Program) (n : Nat) : IR → Code → Bool
  | .skip, .skip => true
  | .reg ios, .region _ ops false => opersOk P n ops ops.toList ios
  | .regD ios, .region _ ops true => P.follows .mixedOrders && drawOk P n ops (absA 0 ios) 0 ops.toList (absA 0 ios)
  | .seq x y, .seq a b => codeOk P n x a && codeOk P n y b
  | .cond d x y, .cond c a b => opdOk c d && codeOk P n x a && codeOk P n y b
  | .block j x, .block i a => i == j && codeOk P n x a
  | .loop x, .loop a => codeOk P n x a
  | .cut x, a => codeOk P n x a
  | .keep _ x, a => codeOk P n x a
  | .exit j, .exit i => i == j
  | .ret, .ret => true
  | _, _ => false
section
variable {P : Program} {Γ : Env} {n k0 : Nat} {X0 : Bool → Nat → Prop} {I0 : Nat → Prop} {w0 : World} {m0 : M}
theorem QQ.mono {K K' : Kont} {e : Exit} {a : Act} {w : World} (h : QQ n k0 X0 I0 w0 m0 K e a w) (hk : ∀ x fr st nx, K x fr st nx → K' x fr st nx) : QQ n k0 X0 I0 w0 m0 K' e a w := by
  obtain ⟨x, hx, fr, st, nx, I, m, h1, h2⟩ := h
  exact ⟨x, hx, fr, st, nx, I, m, hk _ _ _ _ h1, h2⟩
/-- A body's end, split. -/
theorem QQ.seq {N : Frame → Store → Nat → Prop} {K : Kont} {e : Exit} {a : Act} {w : World} {next : Act → World → Prop} (h : QQ n k0 X0 I0 w0 m0 (K.seq N) e a w)
    (hn : ∀ fr st nx I m, N fr st nx → Sta n k0 X0 I0 w0 m0 fr st nx I w m a → next a w) : Exit.then next (QQ n k0 X0 I0 w0 m0 K) e a w := by
  obtain ⟨z, hz, fr, st, nx, I, m, hK, hS⟩ := h
  cases e <;> simp only [toEx, Option.some.injEq, reduceCtorEq] at hz <;> subst hz
  · exact hn _ _ _ _ _ hK hS
  · exact ⟨_, rfl, fr, st, nx, I, m, hK, hS⟩
  · exact ⟨_, rfl, fr, st, nx, I, m, hK, hS⟩
theorem keepF_get (l : List Nat) (fr : Frame) (i : Nat) : (keepF l fr).get i = fr.get i ∨ (keepF l fr).get i = .undef := by
  induction l with
  | nil => exact .inr rfl
  | cons j r ih =>
    have e : (keepF (j :: r) fr).get i = if i = j then fr.get j else (keepF r fr).get i := Frame.get_cons (keepF r fr) j (fr.get j) i
    rw [e]
    split
    · rename_i e; rw [e]; exact .inl rfl
    · exact ih
theorem Sta.keep {fr : Frame} {st : Store} {nx : Nat} {I : Nat → Prop} {w : World} {m : M} {a : Act} (h : Sta n k0 X0 I0 w0 m0 fr st nx I w m a) (l : List Nat) : Sta n k0 X0 I0 w0 m0 (keepF l fr) st nx I w m a :=
  ⟨h.size, h.defers, fun i => by
    rcases keepF_get l fr i with e | e
    · rw [e]; exact h.f i
    · rw [e]; trivial, h.hs, h.same, h.kept, h.lt⟩
theorem code_sound (hΓ : EnvOk P Γ) : ∀ {ir : IR} {c : Code} {K : Kont} {fr : Frame} {st : Store} {nx : Nat} {I : Nat → Prop} {w : World} {m : M} {a : Act},
    codeOk P n ir c = true → Sta n k0 X0 I0 w0 m0 fr st nx I w m a → evC Γ k0 ir K fr st nx → c.wp P (QQ n k0 X0 I0 w0 m0 K) a w := by
  intro ir
  induction ir with
  | skip =>
    intro c K fr st nx I w m a hok h ev
    cases c <;> simp only [codeOk, Bool.false_eq_true] at hok
    exact wp_skip ⟨_, rfl, fr, st, nx, I, m, ev, h⟩
  | reg ios =>
    intro c K fr st nx I w m a hok h ev
    cases c with
    | region id ops draw =>
      cases draw with
      | true => simp only [codeOk, Bool.false_eq_true] at hok
      | false =>
        exact wp_region_list (ops_sound hΓ hok h ev fun fr' st' nx' I' w' m' a' hK hS => ⟨_, rfl, fr', st', nx', I', m', hK, hS⟩)
    | _ => simp only [codeOk, Bool.false_eq_true] at hok
  | regD ios =>
    intro c K fr st nx I w m a hok h ev
    cases c with
    | region id ops draw =>
      cases draw with
      | false => simp only [codeOk, Bool.false_eq_true] at hok
      | true =>
        simp only [codeOk, Bool.and_eq_true] at hok
        exact draw_sound hok.1 hΓ hok.2 h ev fun fr' st' nx' I' w' m' a' hK hS => ⟨_, rfl, fr', st', nx', I', m', hK, hS⟩
    | _ => simp only [codeOk, Bool.false_eq_true] at hok
  | seq x y ihx ihy =>
    intro c K fr st nx I w m a hok h ev
    cases c <;> simp only [codeOk, Bool.false_eq_true, Bool.and_eq_true] at hok
    exact wp_seq (wp_mono (ihx hok.1 h ev) fun e a' w' hq => hq.seq fun fr' st' nx' I' m' hK hS => ihy hok.2 hS hK)
  | cond d x y ihx ihy =>
    intro c K fr st nx I w m a hok h ev
    cases c <;> simp only [codeOk, Bool.false_eq_true, Bool.and_eq_true] at hok
    have hv := (h.f.on [d]).rv (List.mem_cons_self ..) hok.1.1
    replace ev : match d.ev fr with
      | .bool t => cnd t (evC Γ k0 x K (knowF d true fr) st nx) (evC Γ k0 y K (knowF d false fr) st nx)
      | .kb t => match t with | true => evC Γ k0 x K fr st nx | false => evC Γ k0 y K fr st nx
      | _ => False := ev
    split at ev
    · rename_i t ht
      rw [ht] at hv
      have kn : ∀ b, t = b → Sta n k0 X0 I0 w0 m0 (knowF d b fr) st nx I w m a := fun b hb => by
        subst hb
        unfold knowF
        split
        · rename_i i
          have hi := h.f i
          have ht' : fr.get i = .bool t := ht
          rw [ht'] at hi
          exact ⟨h.size, h.defers, h.f.know hi, h.hs, h.same, h.kept, h.lt⟩
        · exact h
      rcases cnd_cases ev with ⟨rfl, ev'⟩ | ⟨rfl, ev'⟩
      · exact wp_cond_true hv (ihx hok.1.2 (kn _ rfl) ev')
      · exact wp_cond_false hv (ihy hok.2 (kn _ rfl) ev')
    · rename_i t ht
      rw [ht] at hv
      cases t
      · exact wp_cond_false hv (ihy hok.2 h ev)
      · exact wp_cond_true hv (ihx hok.1.2 h ev)
    · exact ev.elim
  | block id x ih =>
    intro c K fr st nx I w m a hok h ev
    cases c <;> simp only [codeOk, Bool.false_eq_true, Bool.and_eq_true, beq_iff_eq] at hok
    obtain ⟨rfl, hok⟩ := hok
    refine wp_block (wp_mono (ih hok h ev) ?_)
    rintro e a' w' ⟨z, hz, fr', st', nx', I', m', hK, hS⟩
    cases e <;> simp only [toEx, Option.some.injEq, reduceCtorEq] at hz <;> subst hz
    · exact ⟨_, rfl, fr', st', nx', I', m', hK, hS⟩
    · rename_i id i
      simp only [Kont.block] at hK
      simp only [Exit.inBlock]
      split at hK
      · rename_i hb
        rw [if_pos (Nat.eq_of_beq_eq_true hb)]
        exact ⟨_, rfl, fr', st', nx', I', m', hK, hS⟩
      · rename_i hb
        rw [if_neg (fun e => by subst e; rw [Nat.beq_refl] at hb; cases hb)]
        exact ⟨_, rfl, fr', st', nx', I', m', hK, hS⟩
    · exact ⟨_, rfl, fr', st', nx', I', m', hK, hS⟩
  | loop x ih =>
    intro c K fr st nx I w m a hok h ev
    cases c <;> simp only [codeOk, Bool.false_eq_true] at hok
    refine ev _ ?_ ?_
    · rintro ⟨k, hk⟩
      refine wp_loop_rounds k ?_
      clear ev
      induction k generalizing fr st nx I w m a with
      | zero => exact hk.elim
      | succ k ihk =>
        rw [rounds_succ]
        exact wp_mono (ih hok h hk) fun e a' w' hq => hq.seq fun fr' st' nx' I' m' hK hS => ihk hS hK
    · rintro ⟨live, α, J, V, O, μ, h0, hb⟩
      have main : ∀ k (v : α), J v → μ v < k → ∀ {I : Nat → Prop} {w : World} {m : M} {a : Act}, Sta n k0 X0 I0 w0 m0 (zipF live (V v)) (mkSt 0 (O v)) (O v).length I w m a → Code.rounds P _ (QQ n k0 X0 I0 w0 m0 K) k a w := fun k => by
        induction k with
        | zero => intro v _ hv; omega
        | succ k ihk =>
          intro v hJ hv I w m a hS
          rw [rounds_succ]
          refine wp_mono (ih hok hS (hb v hJ)) fun e a' w' hq => hq.seq fun fr' st' nx' I' m' hK hS' => ?_
          obtain ⟨vs, os, hp, m2, hS2, _⟩ := canK_sound hS' hK
          obtain ⟨v', hJ', h1, rfl, rfl⟩ := of_post hp
          exact ihk v' hJ' (by omega) hS2
      obtain ⟨vs, os, ⟨v, hJ, rfl, rfl⟩, m2, hS2, _⟩ := canK_sound h h0
      exact wp_loop_rounds (μ v + 1) (main (μ v + 1) v hJ (Nat.lt_succ_self _) hS2)
  | cut x ih =>
    intro c K fr st nx I w m a hok h ev
    simp only [codeOk] at hok
    refine ev _ (fun ev => ih hok h ev) ?_
    rintro ⟨live, α, V, O, hb, hk⟩
    refine wp_mono (ih hok h hb) ?_
    rintro e a' w' ⟨z, hz, fr', st', nx', I', m', hK, hS⟩
    cases e <;> simp only [toEx, Option.some.injEq, reduceCtorEq] at hz <;> subst hz
    · obtain ⟨vs, os, hp, m2, hS2, _⟩ := canK_sound hS hK
      obtain ⟨v, rfl, rfl⟩ := of_post hp
      exact ⟨_, rfl, _, _, _, I', m2, hk v, hS2⟩
    · exact ⟨_, rfl, fr', st', nx', I', m', hK, hS⟩
    · exact ⟨_, rfl, fr', st', nx', I', m', hK, hS⟩
  | keep l x ih =>
    intro c K fr st nx I w m a hok h ev
    simp only [codeOk] at hok
    have ev : keepK l fr fun fr => bareSt st fun st => evC Γ k0 x K fr st nx := ev
    simp only [keepK_eq, bareSt_eq] at ev
    exact ih hok (h.keep l) ev
  | exit i =>
    intro c K fr st nx I w m a hok h ev
    cases c <;> simp only [codeOk, Bool.false_eq_true, beq_iff_eq] at hok
    subst hok
    exact wp_exit ⟨_, rfl, fr, st, nx, I, m, ev, h⟩
  | ret =>
    intro c K fr st nx I w m a hok h ev
    cases c <;> simp only [codeOk, Bool.false_eq_true] at hok
    exact wp_ret ⟨_, rfl, fr, st, nx, I, m, ev, h⟩
end
/-- A function's results: in which slots or boxes, and whether rows are told as data that is only read. -/
inductive RD where
  | tmp (t : Nat) (fz : Bool) (ty : Option Ty)
  | cell (t : Nat) (n : Option Nat) (fz : Bool)
def resOk (P : Program) : List ResultVar → List RD → Bool
  | [], [] => true
  | .tmp t :: r, .tmp u _ _ :: l => t == u && resOk P r l
  | .cell t ty :: r, .cell u n _ :: l => t == u && nOk P ty n && resOk P r l
  | _, _ => false
def retOne (fr : Frame) (st : Store) (K : AV → Prop) : RD → Prop
  | .tmp t _ _ => K (fr.get t)
  | .cell t n _ => match fr.get t with
    | .ptr i off => match st.get i with
      | some (.box l) => cut n off l K
      | _ => False
    | _ => False
def RD.fz : RD → Bool | .tmp _ f _ => f | .cell _ _ f => f
def RD.ty : RD → Option Ty | .tmp _ _ t => t | .cell _ _ _ => none
/-- No slice, as data. -/
def nilTo (o : Option Ty) (v : AV) (K : AV → Prop) : Prop := match o with
  | none => K v
  | some t => match v with | .nils => K (.imm t []) | v => force v K
def rets (fr : Frame) (st0 : Store) : Store → List RD → (List AV → Store → Prop) → Prop
  | st, [], K => K [] st
  | st, r :: l, K => retOne fr st0 (fun v => nilTo r.ty v fun v => match r.fz with
    | true => frz1 st v fun v st => rets fr st0 st l fun vs st => K (v :: vs) st
    | false => rets fr st0 st l fun vs st => K (v :: vs) st) r
/-- What a function tells: its result and its things. -/
def finK (k0 : Nat) (rd : List RD) (K : AV → List Obj → Prop) (fr : Frame) (st : Store) : Prop :=
  rets fr st st rd fun vs st => nrmL2 vs fun vs => canL2 vs (upto k0) fun vs ρ => canSt st 1000 0 ρ fun os _ => match vs with
    | [v] => post (K v os)
    | vs => match allB (fun v => match v with | .fn _ _ _ => false | _ => true) vs with | true => post (K (.tup vs) os) | false => False
def argF : Nat → List AV → Frame
  | _, [] => []
  | k, v :: r => (k, v) :: argF (k + 1) r
/-- A function's text. -/
def evFn (Γ : Env) (ir : IR) (rd : List RD) (args : List AV) (objs : List Obj) (K : AV → List Obj → Prop) : Prop :=
  evC Γ objs.length ir (fun e fr st _ => match e with
    | .normal => finK objs.length rd K fr st
    | .ret => finK objs.length rd K fr st
    | .exit _ => False) (argF 0 args) (mkSt 0 objs) objs.length
end Go.Eng
