/- Parts of the proof: ECode. No condition. -/
import Derived.Test.YtcgkajpmcbnmkaaGreatDoorWA06
import Derived.LoopN
namespace Go.Eng
set_option linter.unusedVariables false
set_option linter.unusedSimpArgs false
open Go.RowKit
inductive Ex where
  | normal
  | exit (i : Nat)
  | ret
abbrev Kont := Ex → Frame → Store → Nat → Prop
def evGuard (g : Option (Nat × Bool)) (fr : Frame) (run skip : Frame → Prop) : Prop := match g with
  | none => run fr
  | some (g, b) => match fr.get g with
    | .bool t => cnd t (match b with | true => run ((g, .kb true) :: fr) | false => skip ((g, .kb true) :: fr)) (match b with | true => skip ((g, .kb false) :: fr) | false => run ((g, .kb false) :: fr))
    | .kb t => match t, b with
      | true, true => run fr
      | false, false => run fr
      | true, false => skip fr
      | false, true => skip fr
    | .skp => skip fr
    | _ => False
def putD (d : Option Nat) (v : AV) (fr : Frame) : Frame := match d with | none => fr | some d => (d, v) :: fr
def putDK (d : Option Nat) (v : AV) (fr : Frame) (K : Frame → Prop) : Prop := match d with | none => K fr | some d => K ((d, v) :: fr)
theorem putDK_eq (d : Option Nat) (v : AV) (fr : Frame) (K : Frame → Prop) : putDK d v fr K = K (putD d v fr) := by cases d <;> rfl
def keepK : List Nat → Frame → (Frame → Prop) → Prop
  | [], _, K => K []
  | i :: r, fr, K => force (fr.get i) fun v => keepK r fr fun t => K ((i, v) :: t)
def keepF (l : List Nat) (fr : Frame) : Frame := l.map fun i => (i, fr.get i)
theorem keepK_eq : ∀ (l : List Nat) (fr : Frame) (K : Frame → Prop), keepK l fr K = K (keepF l fr)
  | [], _, _ => rfl
  | i :: r, fr, K => by unfold keepK; rw [force_eq]; exact keepK_eq r fr _
def bareSt : Store → (Store → Prop) → Prop
  | [], K => K []
  | (i, o) :: r, K => bareSt r fun r => K ((i, o) :: r)
theorem bareSt_eq : ∀ (st : Store) (K : Store → Prop), bareSt st K = K st
  | [], _ => rfl
  | (i, o) :: r, K => by unfold bareSt; exact bareSt_eq r _
def evOps (Γ : Env) (l : List IOper) : Frame → Store → Nat → (Frame → Store → Nat → Prop) → Prop :=
  List.rec (motive := fun _ => Frame → Store → Nat → (Frame → Store → Nat → Prop) → Prop) (fun fr st nx K => K fr st nx)
    (fun x _ ih fr st nx K => evGuard x.guard fr (fun fr => evOp Γ x.op fr st nx fun v st nx => litN nx fun nx => putDK x.dst v fr fun fr => ih fr st nx K) fun fr => putDK x.dst .skp fr fun fr => ih fr st nx K) l
theorem evOps_cons {Γ : Env} {x : IOper} {l : List IOper} {fr : Frame} {st : Store} {nx : Nat} {K : Frame → Store → Nat → Prop} : evOps Γ (x :: l) fr st nx K = evGuard x.guard fr (fun fr => evOp Γ x.op fr st nx fun v st nx => evOps Γ l (putD x.dst v fr) st nx K) fun fr => evOps Γ l (putD x.dst .skp fr) st nx K := by
  show evGuard x.guard fr (fun fr => evOp Γ x.op fr st nx fun v st nx => litN nx fun nx => putDK x.dst v fr fun fr => evOps Γ l fr st nx K) (fun fr => putDK x.dst .skp fr fun fr => evOps Γ l fr st nx K) = _
  simp only [litN_eq, putDK_eq]
def opFoot (io : IOp) (fr : Frame) : List Nat := match io with
  | .call _ f args => callIds f args fr
  | .box _ | .boxv _ | .mkmap _ _ | .slice0 _ | .sliceOwn _ _ _ | .mkrow _ _ _ _ _ | .s2b _ | .nilrow _ | .rngs _ => []
  | .store _ x y => storeFoot x y fr
  | io => match io.pure with | true => [] | false => footL io.opds fr
def opWr (Γ : Env) (io : IOp) (fr : Frame) : Bool := match io with
  | .call _ f _ => callWr Γ (f.ev fr)
  | .store _ _ _ | .sliceAll _ _ _ | .append _ _ _ _ | .appendz _ _ _ _ _ | .copy _ _ _ | .nxts _ | .appends _ _ => true
  | _ => false
def isCall : IOp → Bool | .call _ _ _ => true | _ => false
def IOp.sup : IOp → Bool
  | .isnil _ _ => false
  | _ => true
def IOp.supS (o : IOp) : Bool := match o with | .isnil _ _ => true | o => o.sup
theorem op_mok {P : Program} {Γ : Env} {o : Oper} {io : IOp} {fr : Frame} {F : Nat → Prop} {st : Store} {nx : Nat} {K : AV → Store → Nat → Prop} (hΓ : EnvOk P Γ) (hst : ∀ i, st.get i ≠ none → i < nx) (hsup : io.sup = true) (hok : opOk P o.op io = true)
    (hcl : isCall io = true → Closed st F) (hfoot : ∀ i ∈ opFoot io fr, F i) (ev : evOp Γ io fr st nx K) : MOK2 P o io.opds fr F (opWr Γ io fr) st nx K := by
  by_cases hp : io.pure = true
  · exact MOK2.of (F := []) (wr := false) (mok_pure (pure_pok hp hok ev)) (fun i hi => (by cases hi)) (fun h => (by cases h))
  · cases io with
    | len => exact MOK2.of (wr := false) (len_mok hok ev) hfoot (fun h => (by cases h))
    | indexSl => exact MOK2.of (wr := false) (indexSl_mok hok ev) hfoot (fun h => (by cases h))
    | load => exact MOK2.of (wr := false) (load_mok hok ev) hfoot (fun h => (by cases h))
    | slice => exact MOK2.of (wr := false) (slice_mok hok ev) hfoot (fun h => (by cases h))
    | b2s => exact MOK2.of (wr := false) (b2s_mok hok ev) hfoot (fun h => (by cases h))
    | box => exact MOK2.of (F := []) (wr := false) (box_mok hok ev) (fun i hi => (by cases hi)) (fun h => (by cases h))
    | boxv => exact MOK2.of (F := []) (wr := false) (boxv_mok hok ev) (fun i hi => (by cases hi)) (fun h => (by cases h))
    | mkmap => exact MOK2.of (F := []) (wr := false) (mkmap_mok hok ev) (fun i hi => (by cases hi)) (fun h => (by cases h))
    | sliceOwn => exact MOK2.of (F := []) (wr := false) (sliceOwn_mok hok ev) (fun i hi => (by cases hi)) (fun h => (by cases h))
    | slice0 => exact MOK2.of (F := []) (wr := false) (slice0_mok hok ev) (fun i hi => (by cases hi)) (fun h => (by cases h))
    | mkrow => exact MOK2.of (F := []) (wr := false) (mkrow_mok hok ev) (fun i hi => (by cases hi)) (fun h => (by cases h))
    | s2b => exact MOK2.of (F := []) (wr := false) (s2b_mok hok ev) (fun i hi => (by cases hi)) (fun h => (by cases h))
    | sliceAll => exact MOK2.of (sliceAll_mok hok ev) hfoot (fun _ => rfl)
    | store => exact MOK2.of (store_mok hok ev) hfoot (fun _ => rfl)
    | append => exact MOK2.of (append_mok hok ev) hfoot (fun _ => rfl)
    | appendz => exact MOK2.of (appendz_mok hok ev) hfoot (fun _ => rfl)
    | bad => exact ev.elim
    | rngs => exact MOK2.of (F := []) (wr := false) (rngs_mok hok ev) (fun i hi => (by cases hi)) (fun h => (by cases h))
    | nxts => exact MOK2.of (nxts_mok hok ev) hfoot (fun _ => rfl)
    | appends => exact MOK2.of (appends_mok hok ev) hfoot (fun _ => rfl)
    | nilrow => exact MOK2.of (F := []) (wr := false) (nilrow_mok hok ev) (fun i hi => (by cases hi)) (fun h => (by cases h))
    | mlen => exact MOK2.of (wr := false) (mlen_mok hok ev) hfoot (fun h => (by cases h))
    | copy => exact MOK2.of (copy_mok hok ev) hfoot (fun _ => rfl)
    | call => exact call_mok hΓ hst hok (hcl rfl) hfoot ev
    | _ => first | exact absurd rfl hp | cases hsup
def forceN : List Nat → (List Nat → Prop) → Prop
  | [], K => K []
  | i :: r, K => litN i fun i => forceN r fun r => K (i :: r)
theorem forceN_eq : ∀ (l : List Nat) (K : List Nat → Prop), forceN l K = K l
  | [], _ => rfl
  | i :: r, K => by unfold forceN; rw [litN_eq]; exact forceN_eq r _
def stepIds (st : Store) : List Nat → List Nat
  | [] => []
  | i :: r => match st.get i with
    | some o => o.ids ++ stepIds st r
    | none => stepIds st r
def closeL (st : Store) (l : List Nat) : List Nat :=
  l ++ (stepIds st l ++ (stepIds st (stepIds st l) ++ stepIds st (stepIds st (stepIds st l))))
def closeK (st : Store) (l : List Nat) (K : List Nat → Prop) : Prop :=
  forceN l fun l => forceN (stepIds st l) fun a => forceN (stepIds st a) fun b => forceN (stepIds st b) fun c => forceN (l ++ (a ++ (b ++ c))) K
theorem closeK_eq (st : Store) (l : List Nat) (K : List Nat → Prop) : closeK st l K = K (closeL st l) := by
  unfold closeK closeL; simp only [forceN_eq]
def subB : List Nat → List Nat → Bool
  | [], _ => true
  | i :: r, l => match memB i l with | true => subB r l | false => false
def closedB (st : Store) (F : List Nat) : Bool := subB (stepIds st F) F
theorem memB_in {i : Nat} : ∀ {l : List Nat}, memB i l = true → i ∈ l
  | [], h => by cases h
  | j :: r, h => by
    unfold memB at h
    cases hb : Nat.beq j i with
    | true => rw [Nat.eq_of_beq_eq_true hb]; exact List.mem_cons_self ..
    | false => rw [hb] at h; exact List.mem_cons_of_mem _ (memB_in h)
theorem subB_of : ∀ {l r : List Nat}, subB l r = true → ∀ i ∈ l, i ∈ r
  | [], _, _ => fun i hi => by cases hi
  | j :: l, r, h => fun i hi => by
    unfold subB at h
    cases hb : memB j r with
    | true =>
      rw [hb] at h
      rcases List.mem_cons.1 hi with rfl | hi
      · exact memB_in hb
      · exact subB_of h i hi
    | false => rw [hb] at h; cases h
theorem stepIds_mem {st : Store} : ∀ {F : List Nat} {i : Nat} {l : Obj}, i ∈ F → st.get i = some l → ∀ j ∈ l.ids, j ∈ stepIds st F
  | [], _, _, h, _ => by cases h
  | k :: r, i, l, h, hg => fun j hj => by
    unfold stepIds
    rcases List.mem_cons.1 h with rfl | h
    · rw [hg]; exact List.mem_append.2 (.inl hj)
    · have := stepIds_mem h hg j hj
      split
      · exact List.mem_append.2 (.inr this)
      · exact this
theorem closedB_of {st : Store} {F : List Nat} (h : closedB st F = true) : Closed st (· ∈ F) := fun i hi l hg j hj => subB_of h j (stepIds_mem hi hg j hj)
def footK (io : IOp) (fr : Frame) (st : Store) (K : List Nat → Prop) : Prop := match isCall io with
  | true => closeK st (opFoot io fr) fun F => match closedB st F with | true => K F | false => False
  | false => forceN (opFoot io fr) K
theorem footK_cases {io : IOp} {fr : Frame} {st : Store} {K : List Nat → Prop} (h : footK io fr st K) : ∃ F, K F ∧ (isCall io = true → Closed st (· ∈ F)) ∧ ∀ i ∈ opFoot io fr, i ∈ F := by
  unfold footK at h
  cases hc : isCall io with
  | true =>
    rw [hc] at h
    simp only [closeK_eq] at h
    split at h
    · rename_i hb; exact ⟨_, h, fun _ => closedB_of hb, fun i hi => List.mem_append.2 (.inl hi)⟩
    · exact h.elim
  | false =>
    rw [hc] at h
    simp only [forceN_eq] at h
    exact ⟨_, h, fun e => (by cases e), fun i hi => hi⟩
def flipL (st st1 : Store) : List Nat → List Nat
  | [] => []
  | i :: r => match flipB st st1 i with | true => i :: flipL st st1 r | false => flipL st st1 r
theorem flipL_mem {st st1 : Store} : ∀ {F : List Nat} {i : Nat}, i ∈ F → flipB st st1 i = true → i ∈ flipL st st1 F
  | [], _, h, _ => by cases h
  | j :: r, i, h, hb => by
    unfold flipL
    rcases List.mem_cons.1 h with rfl | h
    · rw [hb]; exact List.mem_cons_self ..
    · have := flipL_mem h hb
      split
      · exact List.mem_cons_of_mem _ this
      · exact this
def rangeN : Nat → Nat → List Nat
  | _, 0 => []
  | i, n + 1 => i :: rangeN (i + 1) n
theorem rangeN_mem : ∀ {n i k : Nat}, i ≤ k → k < i + n → k ∈ rangeN i n
  | 0, i, k, h1, h2 => by omega
  | n + 1, i, k, h1, h2 => by
    unfold rangeN
    by_cases e : k = i
    · rw [e]; exact List.mem_cons_self ..
    · exact List.mem_cons_of_mem _ (rangeN_mem (by omega) (by omega))
def wrL (wr : Bool) (F : List Nat) (st st1 : Store) (nx nx1 : Nat) : List Nat := (match wr with | true => F | false => flipL st st1 F) ++ rangeN nx (nx1 - nx)
def confl (hist : List (List Nat × List Nat)) (F W : List Nat) : List Nat → Bool
  | [] => true
  | j :: r => match hist.drop j with
    | (Fj, Wj) :: _ => match disj Wj F with
      | true => match disj Fj W with
        | true => confl hist F W r
        | false => false
      | false => false
    | [] => false
def conflR : List (List Nat × List Nat) → List Nat → List Nat → List Nat → Bool
  | _, _, _, [] => true
  | h, F, W, g :: r => match h.drop g with
    | (Fj, Wj) :: t => match disj Wj F with
      | true => match disj Fj W with
        | true => conflR t F W r
        | false => false
      | false => false
    | [] => false
def conflE (h : List (List Nat × List Nat)) (F W us : List Nat) : Bool := match F with
  | [] => match W with
    | [] => true
    | _ :: _ => conflR h F W us
  | _ :: _ => conflR h F W us
def evOpsR (Γ : Env) (l : List (IOper × List Nat)) : List (List Nat × List Nat) → Frame → Store → Nat → (Frame → Store → Nat → Prop) → Prop :=
  List.rec (motive := fun _ => List (List Nat × List Nat) → Frame → Store → Nat → (Frame → Store → Nat → Prop) → Prop) (fun _ fr st nx K => K fr st nx)
    (fun x _ ih hist fr st nx K => evGuard x.1.guard fr
      (fun fr => footK x.1.op fr st fun F => evOp Γ x.1.op fr st nx fun v st1 nx1 => litN nx1 fun nx1 => forceN (wrL (opWr Γ x.1.op fr) F st st1 nx nx1) fun W => match conflE hist F W x.2 with
        | true => putDK x.1.dst v fr fun fr => ih ((F, W) :: hist) fr st1 nx1 K
        | false => False)
      fun fr => putDK x.1.dst .skp fr fun fr => ih (([], []) :: hist) fr st nx K) l
def usA : Nat → List Nat → List Nat
  | _, [] => []
  | k, g :: r => (k - 1 - g) :: usA (k - 1 - g) r
def absA : Nat → List (IOper × List Nat) → List (IOper × List Nat)
  | _, [] => []
  | k, x :: r => (x.1, usA k x.2) :: absA (k + 1) r
theorem conflR_of {full : List (List Nat × List Nat)} {F W : List Nat} : ∀ {us : List Nat} {k : Nat}, k ≤ full.length → conflR (full.take k).reverse F W us = true → confl full F W (usA k us) = true
  | [], _, _, _ => rfl
  | g :: r, k, hk, h => by
    unfold conflR at h
    split at h
    · rename_i Fj Wj t hd
      have hl : g < (full.take k).reverse.length := by
        rcases Nat.lt_or_ge g (full.take k).reverse.length with h' | h'
        · exact h'
        · rw [List.drop_of_length_le h'] at hd; cases hd
      have hgk : g < k := by rw [List.length_reverse, List.length_take] at hl; omega
      rw [List.drop_eq_getElem_cons hl] at hd
      injection hd with h1 h2
      have e1 : full[k - 1 - g]? = some (Fj, Wj) := by
        rw [← h1, List.getElem_reverse, List.getElem_take, List.getElem?_eq_getElem (by omega)]
        simp only [List.length_take, Nat.min_eq_left hk]
      have e2 : (full.take (k - 1 - g)).reverse = t := by
        rw [← h2, List.drop_reverse, List.length_take, Nat.min_eq_left hk, List.take_take, Nat.min_eq_left (by omega), show k - 1 - g = k - (g + 1) by omega]
      have e3 : full.drop (k - 1 - g) = (Fj, Wj) :: full.drop (k - 1 - g + 1) := by
        have hlt : k - 1 - g < full.length := by omega
        rw [List.drop_eq_getElem_cons hlt]
        rw [List.getElem?_eq_getElem hlt] at e1
        rw [Option.some.inj e1]
      split at h
      · rename_i d1
        split at h
        · rename_i d2
          show confl full F W ((k - 1 - g) :: usA (k - 1 - g) r) = true
          unfold confl
          rw [e3]
          simp only []
          rw [d1]; simp only []
          rw [d2]; simp only []
          exact conflR_of (by omega) (by rw [e2]; exact h)
        · cases h
      · cases h
    · cases h
theorem confl_nil {hist : List (List Nat × List Nat)} : ∀ {us : List Nat}, (∀ j ∈ us, j < hist.length) → confl hist [] [] us = true
  | [], _ => rfl
  | j :: r, h => by
    have hj := h j (List.mem_cons_self ..)
    unfold confl
    rw [List.drop_eq_getElem_cons hj]
    generalize hist[j] = x
    obtain ⟨Fj, Wj⟩ := x
    have d1 : ∀ l : List Nat, disj l [] = true := fun l => by induction l with
      | nil => rfl
      | cons a t ih => exact ih
    simp only [d1, disj]
    exact confl_nil fun j hj => h j (List.mem_cons_of_mem _ hj)
theorem conflE_of {full : List (List Nat × List Nat)} {F W us : List Nat} {k : Nat} (hk : full.length = k) (hu : ∀ j ∈ usA k us, j < k) (h : conflE full.reverse F W us = true) : confl full F W (usA k us) = true := by
  have key : conflR full.reverse F W us = true → confl full F W (usA k us) = true := fun h => conflR_of (by omega) (by rw [List.take_of_length_le (by omega)]; exact h)
  unfold conflE at h
  split at h
  · split at h
    · exact confl_nil fun j hj => by rw [hk]; exact hu j hj
    · exact key h
  · exact key h
def Kont.block (id : Nat) (K : Kont) : Kont := fun e fr st nx => match e with
  | .exit i => match Nat.beq i id with | true => K .normal fr st nx | false => K (.exit i) fr st nx
  | .normal => K .normal fr st nx
  | .ret => K .ret fr st nx
def Kont.seq (n : Frame → Store → Nat → Prop) (K : Kont) : Kont := fun e fr st nx => match e with
  | .normal => n fr st nx
  | .exit i => K (.exit i) fr st nx
  | .ret => K .ret fr st nx
def unroll (body : Kont → Frame → Store → Nat → Prop) (K : Kont) : Nat → Frame → Store → Nat → Prop
  | 0, _, _, _ => False
  | n + 1, fr, st, nx => body (K.seq fun fr st nx => unroll body K n fr st nx) fr st nx
def mkSt : Nat → List Obj → Store
  | _, [] => []
  | i, o :: r => (i, o) :: mkSt (i + 1) r
def zipF : List Nat → List AV → Frame
  | i :: l, v :: r => (i, v) :: zipF l r
  | _, _ => []
def upto : Nat → List Nat := fun k => rangeN 0 k
def canK (k0 : Nat) (live : List Nat) (fr : Frame) (st : Store) (K : List AV → List Obj → Prop) : Prop :=
  nrmL2 (live.map fr.get) fun vs => canL2 vs (upto k0) fun vs ρ => canSt st 1000 0 ρ fun os _ => K vs os
def loopK (k0 : Nat) (body : Kont → Frame → Store → Nat → Prop) (K : Kont) (fr : Frame) (st : Store) (nx : Nat) : Prop := ∀ r : Prop,
  ((∃ n, unroll body K n fr st nx) → r) →
  ((∃ (live : List Nat) (α : Type) (J : α → Prop) (V : α → List AV) (O : α → List Obj) (μ : α → Nat), canK k0 live fr st (fun vs os => ∃ a, J a ∧ vs = V a ∧ os = O a) ∧
    ∀ a, J a → body (K.seq fun fr st _ => canK k0 live fr st fun vs os => post (∃ a', J a' ∧ μ a' < μ a ∧ vs = V a' ∧ os = O a')) (zipF live (V a)) (mkSt 0 (O a)) (O a).length) → r) → r
def cutK (k0 : Nat) (body : Kont → Frame → Store → Nat → Prop) (K : Kont) (fr : Frame) (st : Store) (nx : Nat) : Prop := ∀ r : Prop,
  (body K fr st nx → r) →
  ((∃ (live : List Nat) (α : Type) (V : α → List AV) (O : α → List Obj), body (K.seq fun fr st _ => canK k0 live fr st fun vs os => post (∃ a, vs = V a ∧ os = O a)) fr st nx ∧
    ∀ a, K .normal (zipF live (V a)) (mkSt 0 (O a)) (O a).length) → r) → r
def knowF (c : Opd) (b : Bool) (fr : Frame) : Frame := match c with | .t i => (i, .kb b) :: fr | _ => fr
def argF : Nat → List AV → Frame
  | _, [] => []
  | k, v :: r => (k, v) :: argF (k + 1) r
abbrev Hd := Nat → List Nat → List Opd → Frame → Store → Nat → (Bool → Frame → Store → Nat → Prop) → Prop
def hd0 : Hd := fun _ _ _ _ _ _ _ => False
def slotsOf : List Opd → List Nat
  | [] => []
  | .t i :: r => i :: slotsOf r
  | .c _ :: r => slotsOf r
  | .f _ :: r => slotsOf r
def lenEq : List Opd → List Nat → Bool
  | [], [] => true
  | _ :: r, _ :: l => lenEq r l
  | _, _ => false
theorem lenEq_of : ∀ {l : List Opd} {r : List Nat}, lenEq l r = true → l.length = r.length
  | [], [], _ => rfl
  | _ :: l, _ :: r, h => by
    have := lenEq_of (l := l) (r := r) h
    simp [this]
  | [], _ :: _, h => by cases h
  | _ :: _, [], h => by cases h
def leB : List AV → Nat → Bool
  | [], _ => true
  | _ :: r, n + 1 => leB r n
  | _ :: _, 0 => false
theorem leB_of : ∀ {l : List AV} {n : Nat}, leB l n = true → l.length ≤ n
  | [], _, _ => Nat.zero_le _
  | _ :: r, n + 1, h => by
    have := leB_of (l := r) (n := n) h
    simp; omega
  | _ :: _, 0, h => by cases h
def lay (p : Prop) : Prop := p ∨ False
abbrev Wk := Nat → Hd → Kont → Frame → Store → Nat → Prop
def endRd (n c : Nat) (st : Store) (K : Store → Prop) : Prop := match st.get n with
  | some (.lrec r _) => st.setK n (.lrec r c) K
  | _ => False
def bodyE (n : Nat) (frc : Frame) (KY : Bool → Frame → Store → Nat → Prop) : Kont := fun e _ st nx => match e with
  | .normal => endRd n 0 st fun st => KY true frc st nx
  | .ret => endRd n 2 st fun st => KY false frc st nx
  | .exit i => endRd n (i + 3) st fun st => KY false frc st nx
def asgE (n nb : Nat) (frc : Frame) (body : Wk) (KY : Bool → Frame → Store → Nat → Prop) : Kont := fun e fr st nx => match e with
  | .normal => match st.get n with
    | some (.lrec r c) => match c with
      | 0 => st.setK n (.lrec r 1) fun st => body nb hd0 (bodyE n frc KY) fr st nx
      | _ + 1 => False
    | _ => False
  | _ => False
def hdR (n : Nat) (lr : Go.Loop) (l : Nat) (us : List AV) (ps lv : List Nat) (asg body : Wk) : Hd := fun l' lvg args fr st nx KY =>
  canK (n + 1) (lvg ++ slotsOf args) fr st fun vs os => litN os.length fun nb => match (mkSt 0 os).get n with
    | some (.lrec r c) => match c with
      | 0 => match lenEq args ps with
        | true => need (l' = l ∧ r = lr) (asg nb hd0 (asgE n nb (zipF (lvg ++ slotsOf args) vs) body KY) (zipF ps (args.map (·.ev (zipF (lvg ++ slotsOf args) vs))) ++ zipF lv us) (mkSt 0 os) nb)
        | false => False
      | _ + 1 => False
    | _ => False
def endR (n : Nat) (fr : Frame) (K : Kont) (st : Store) (nx : Nat) : Prop := match st.get n with
  | some (.lrec _ c) => st.setK n .dead fun st => match c with
    | 0 => K .normal fr st nx
    | 1 => False
    | 2 => K .ret fr st nx
    | c + 3 => K (.exit c) fr st nx
  | _ => False
def KG (n : Nat) (fr : Frame) (K : Kont) : Kont := fun e _ st nx => match e with
  | .normal => endR n fr K st nx
  | .ret => endR n fr K st nx
  | .exit _ => False
def rngK (f : Nat) (ps lv : List Nat) (g : Nat) (asg body gir : Wk) (k0 : Nat) (K : Kont) (fr : Frame) (st : Store) : Prop :=
  canK k0 (f :: lv) fr st fun vs os => match vs with
    | [] => False
    | v :: us => match v with
      | .fn f' first cap => match first with
        | [] => match Nat.beq f' g with
          | true => match leB cap 3 with
            | true => litN os.length fun n => lay (∀ (lr : Go.Loop) (l : Nat), gir (n + 1) (hdR n lr l us ps lv asg body) (KG n (zipF lv us) K) (argF 0 (.yv l :: cap)) (mkSt 0 (os ++ [.lrec lr 0])) (n + 1))
            | false => False
          | false => False
        | _ :: _ => False
      | _ => False
def yldK (Γ : Env) (pre : List IOper) (d : Option Nat) (y : Opd) (args : List Opd) (lv : List Nat) (suf : List IOper) (hd : Hd) (K : Kont) (fr : Frame) (st : Store) (nx : Nat) : Prop :=
  evOps Γ pre fr st nx fun fr st nx => match y.ev fr with
    | .yv l => hd l lv args fr st nx fun b fr st nx => putDK d (.kb b) fr fun fr => evOps Γ suf fr st nx fun fr st nx => K .normal fr st nx
    | _ => False
def evC (Γ : Env) (ir : IR) : Wk :=
  IR.rec (motive := fun _ => Wk)
    (fun _ _ K fr st nx => K .normal fr st nx)
    (fun ops _ _ K fr st nx => evOps Γ ops fr st nx fun fr st nx => K .normal fr st nx)
    (fun ops _ _ K fr st nx => evOpsR Γ ops [] fr st nx fun fr st nx => K .normal fr st nx)
    (fun _ _ iha ihb k0 hd K fr st nx => iha k0 hd (K.seq fun fr st nx => ihb k0 hd K fr st nx) fr st nx)
    (fun c _ _ iha ihb k0 hd K fr st nx => match c.ev fr with
      | .bool t => cnd t (iha k0 hd K (knowF c true fr) st nx) (ihb k0 hd K (knowF c false fr) st nx)
      | .kb t => match t with | true => iha k0 hd K fr st nx | false => ihb k0 hd K fr st nx
      | _ => False)
    (fun id _ ih k0 hd K fr st nx => ih k0 hd (K.block id) fr st nx)
    (fun _ ih k0 hd K fr st nx => loopK k0 (ih k0 hd) K fr st nx)
    (fun _ ih k0 hd K fr st nx => cutK k0 (ih k0 hd) K fr st nx)
    (fun l _ ih k0 hd K fr st nx => keepK l fr fun fr => bareSt st fun st => ih k0 hd K fr st nx)
    (fun i _ _ K fr st nx => K (.exit i) fr st nx)
    (fun _ _ K fr st nx => K .ret fr st nx)
    (fun _ ih k0 hd K fr st nx => ih k0 hd K fr st nx)
    (fun f ps lv g _ _ _ iha ihb ihg k0 _ K fr st _ => rngK f ps lv g iha ihb ihg k0 K fr st)
    (fun pre d y args lv suf _ hd K fr st nx => yldK Γ pre d y args lv suf hd K fr st nx) ir
end Go.Eng

namespace Go.Eng
set_option linter.unusedVariables false
set_option linter.unusedSimpArgs false
open Go.RowKit
def FRel (I : Nat → Prop) (w : World) (m : M) (φ : Nat → AV) (a : Act) : Prop := ∀ i, RV I w m (φ i) (a.tmps.getD i undef)
def DefOk (I : Nat → Prop) (w0 w : World) (ds : List Deferred) : Prop :=
  ds.Nodup ∧ ∀ d ∈ ds, ∃ D, d = { target := .collected D, args := #[] } ∧ I D ∧ w0.heap.size ≤ D ∧ w.heap[D]? = some (.deferred (some []))
theorem DefOk.nil (I : Nat → Prop) (w0 w : World) : DefOk I w0 w [] := ⟨List.nodup_nil, fun d hd => by cases hd⟩
theorem DefOk.evo {I I' : Nat → Prop} {w0 w w' : World} {ds : List Deferred} (h : DefOk I w0 w ds) (hI : ∀ b, I b → I' b) (hs : Same I w w') : DefOk I' w0 w' ds :=
  ⟨h.1, fun d hd => by
    obtain ⟨D, h1, h2, h3, h4⟩ := h.2 d hd
    exact ⟨D, h1, hI D h2, h3, (hs D h2).trans h4⟩⟩
structure Sta (n k0 : Nat) (X0 : Bool → Nat → Prop) (I0 : Nat → Prop) (w0 : World) (m0 : M) (fr : Frame) (st : Store) (nx : Nat) (I : Nat → Prop) (w : World) (m : M) (a : Act) : Prop where
  size : a.tmps.size = n
  defers : DefOk I w0 w a.defers
  f : FRel I w m fr.get a
  hs : HS X0 I0 w0 st.get I w m
  same : Same I0 w0 w
  kept : ∀ i, i < k0 → m.used i ∧ m0.same m i
  lt : ∀ i, m.used i → i < nx
theorem getD_put {a : Act} {d : Nat} {v : Value} {i : Nat} (hd : d < a.tmps.size) : (a.put (some d) v).tmps.getD i undef = if i = d then v else a.tmps.getD i undef := by
  simp only [Act.put, Array.getD_eq_getD_getElem?, Array.getElem?_setIfInBounds]
  by_cases h : i = d
  · subst h; simp [hd]
  · rw [if_neg (fun e => h e.symm), if_neg h]
theorem FRel.put {I : Nat → Prop} {w : World} {m : M} {fr : Frame} {a : Act} {d : Nat} {v : AV} {cv : Value} (h : FRel I w m fr.get a) (hd : d < a.tmps.size) (hv : RV I w m v cv) : FRel I w m (Frame.get ((d, v) :: fr)) (a.put (some d) cv) := fun i => by
  rw [Frame.get_cons, getD_put hd]
  split
  · exact hv
  · exact h i
theorem FRel.evo {I I' : Nat → Prop} {w w' : World} {m m' : M} {φ : Nat → AV} {a : Act} (h : FRel I w m φ a) (e : Evo I w m I' w' m') : FRel I' w' m' φ a := fun i => e.rv (h i)
theorem FRel.know {I : Nat → Prop} {w : World} {m : M} {fr : Frame} {a : Act} {g : Nat} {b : Bool} (h : FRel I w m fr.get a) (e : a.tmps.getD g undef = .bool b) : FRel I w m (Frame.get ((g, .kb b) :: fr)) a := fun i => by
  rw [Frame.get_cons]
  split
  · subst_vars; rw [e]; rfl
  · exact h i
def dstOk (n : Nat) : Option Nat → Option Nat → Bool
  | none, none => true
  | some d, some e => d == e && decide (d < n)
  | _, _ => false
def guardOk (ops : Array Oper) : Option (Nat × Bool) → Option (Nat × Bool) → Bool
  | none, none => true
  | some (j, b), some (g, c) => b == c && (match (ops[j]?).bind (·.dst) with | some d => d == g | none => false)
  | _, _ => false
def operOk (P : Program) (n : Nat) (ops : Array Oper) (o : Oper) (x : IOper) : Bool := dstOk n o.dst x.dst && opOk P o.op x.op && x.op.sup && guardOk ops o.guard x.guard
def operOkS (P : Program) (n : Nat) (ops : Array Oper) (o : Oper) (x : IOper) : Bool := dstOk n o.dst x.dst && opOk P o.op x.op && x.op.supS && guardOk ops o.guard x.guard
def opersOk (P : Program) (n : Nat) (ops : Array Oper) : List Oper → List IOper → Bool
  | [], [] => true
  | o :: r, x :: l => operOkS P n ops o x && opersOk P n ops r l
  | _, _ => false
theorem yielded_of {ops : Array Oper} {a : Act} {j g : Nat} (h : (match (ops[j]?).bind (·.dst) with | some d => d == g | none => false) = true) :
    yielded ops a.tmps j = match a.tmps.getD g undef with | .bool b => some b | _ => none := by
  unfold yielded
  split at h
  · rename_i d hd
    simp only [beq_iff_eq] at h; subst h
    rw [hd]
    simp only [Option.bind_some, Array.getD_eq_getD_getElem?]
    cases a.tmps[d]? with
    | none => rfl
    | some v => cases v <;> rfl
  · cases h
theorem guard_cases {ops : Array Oper} {o : Oper} {g : Option (Nat × Bool)} {fr : Frame} {run skip : Frame → Prop} (hg : guardOk ops o.guard g = true) (ev : evGuard g fr run skip) :
    ∃ fr' t, (match t with | true => run fr' | false => skip fr') ∧ (fr' = fr ∨ ∃ i v, g = some (i, v) ∧ ∃ b, fr.get i = .bool b ∧ fr' = (i, .kb b) :: fr) ∧
      ∀ (I : Nat → Prop) (w : World) (m : M) (a : Act), (∀ i v, g = some (i, v) → RV I w m (fr.get i) (a.tmps.getD i undef)) → Region.wanted o (yielded ops a.tmps) = t := by
  unfold evGuard at ev
  cases hog : o.guard with
  | none =>
    cases hxg : g with
    | some _ => rw [hog, hxg] at hg; cases hg
    | none =>
      rw [hxg] at ev
      exact ⟨fr, true, ev, .inl rfl, fun I w m a _ => by simp [Region.wanted, hog]⟩
  | some jb =>
    obtain ⟨j, b⟩ := jb
    cases hxg : g with
    | none => rw [hog, hxg] at hg; cases hg
    | some gc =>
      obtain ⟨g, c⟩ := gc
      rw [hog, hxg] at hg
      simp only [guardOk, Bool.and_eq_true, beq_iff_eq] at hg
      obtain ⟨rfl, hy⟩ := hg
      rw [hxg] at ev
      have hw : ∀ a : Act, Region.wanted o (yielded ops a.tmps) = (yielded ops a.tmps j == some b) := fun a => by simp [Region.wanted, hog]
      have is : ∀ {t : Bool}, (∀ {I : Nat → Prop} {w : World} {m : M} {a : Act}, RV I w m (fr.get g) (a.tmps.getD g undef) → a.tmps.getD g undef = .bool t) → ∀ (I : Nat → Prop) (w : World) (m : M) (a : Act), (∀ i v, some (g, b) = some (i, v) → RV I w m (fr.get i) (a.tmps.getD i undef)) → Region.wanted o (yielded ops a.tmps) = (t == b) := fun {t} h I w m a hv => by
        rw [hw, yielded_of hy, h (hv g b rfl)]
        cases t <;> cases b <;> rfl
      simp only at ev
      split at ev
      · rename_i t ht
        have hb := is (t := t) fun {I w m a} h => by rw [ht] at h; exact h
        rcases cnd_cases ev with ⟨rfl, ev'⟩ | ⟨rfl, ev'⟩
        · cases b with
          | true => exact ⟨_, true, ev', .inr ⟨_, _, rfl, _, ht, rfl⟩, hb⟩
          | false => exact ⟨_, false, ev', .inr ⟨_, _, rfl, _, ht, rfl⟩, hb⟩
        · cases b with
          | true => exact ⟨_, false, ev', .inr ⟨_, _, rfl, _, ht, rfl⟩, hb⟩
          | false => exact ⟨_, true, ev', .inr ⟨_, _, rfl, _, ht, rfl⟩, hb⟩
      · rename_i t ht
        have hb := is (t := t) fun {I w m a} h => by rw [ht] at h; exact h
        cases t <;> cases b
        · exact ⟨_, true, ev, .inl rfl, hb⟩
        · exact ⟨_, false, ev, .inl rfl, hb⟩
        · exact ⟨_, false, ev, .inl rfl, hb⟩
        · exact ⟨_, true, ev, .inl rfl, hb⟩
      · rename_i ht
        refine ⟨_, false, ev, .inl rfl, fun I w m a hv => ?_⟩
        have h := hv g b rfl
        rw [ht] at h
        rw [hw, yielded_of hy, show a.tmps.getD g undef = undef from h]
        rfl
      · exact ev.elim
section
variable {P : Program} {Γ : Env} {n k0 : Nat} {X0 : Bool → Nat → Prop} {I0 : Nat → Prop} {w0 : World} {m0 : M}
theorem Sta.fr' {fr fr' : Frame} {st : Store} {nx : Nat} {I : Nat → Prop} {w : World} {m : M} {a : Act} {g : Option (Nat × Bool)} (h : Sta n k0 X0 I0 w0 m0 fr st nx I w m a) (e : fr' = fr ∨ ∃ i v, g = some (i, v) ∧ ∃ b, fr.get i = .bool b ∧ fr' = (i, .kb b) :: fr) :
    Sta n k0 X0 I0 w0 m0 fr' st nx I w m a := by
  rcases e with rfl | ⟨i, v, _, b, hb, rfl⟩
  · exact h
  · have := h.f i
    rw [hb] at this
    exact ⟨h.size, h.defers, h.f.know this, h.hs, h.same, h.kept, h.lt⟩
theorem Sta.put {fr : Frame} {st : Store} {nx : Nat} {I : Nat → Prop} {w : World} {m : M} {a : Act} {d d' : Option Nat} {v : AV} {cv : Value}
    (h : Sta n k0 X0 I0 w0 m0 fr st nx I w m a) (hd : dstOk n d d' = true) (hv : RV I w m v cv) : Sta n k0 X0 I0 w0 m0 (putD d' v fr) st nx I w m (a.put d cv) := by
  cases d with
  | none =>
    cases d' with
    | some _ => cases hd
    | none => exact h
  | some d =>
    cases d' with
    | none => cases hd
    | some e =>
      simp only [dstOk, Bool.and_eq_true, beq_iff_eq, decide_eq_true_eq] at hd
      obtain ⟨rfl, hd⟩ := hd
      exact ⟨by simp only [Act.put, Array.size_setIfInBounds]; exact h.size, h.defers, h.f.put (by rw [h.size]; exact hd) hv, h.hs, h.same, h.kept, h.lt⟩
theorem FRel.on {I : Nat → Prop} {w : World} {m : M} {fr : Frame} {a : Act} (h : FRel I w m fr.get a) (L : List Opd) : FOn L fr I w m a := fun i _ => h i
theorem Sta.st_lt {fr : Frame} {st : Store} {nx : Nat} {I : Nat → Prop} {w : World} {m : M} {a : Act} (h : Sta n k0 X0 I0 w0 m0 fr st nx I w m a) : ∀ i, st.get i ≠ none → i < nx := fun i hi => h.lt i (h.hs.H.lt i hi)
theorem Sta.evo {fr : Frame} {st st' : Store} {nx nx' : Nat} {I I' : Nat → Prop} {w w' : World} {m m' : M} {a : Act} (h : Sta n k0 X0 I0 w0 m0 fr st nx I w m a) (hs' : HS X0 I0 w0 st'.get I' w' m') (e : Evo I w m I' w' m') (hle : nx ≤ nx') (hu : ∀ i, m'.used i → m.used i ∨ (nx ≤ i ∧ i < nx')) :
    Sta n k0 X0 I0 w0 m0 fr st' nx' I' w' m' a :=
  ⟨h.size, h.defers.evo e.up e.same, h.f.evo e, hs', fun b hb => (e.same b (h.hs.Isub b hb)).trans (h.same b hb), fun i hi => ⟨e.m.1 i (h.kept i hi).1, M.same_trans (h.kept i hi).2 (e.m.2 i (h.kept i hi).1)⟩, fun i hi => by
    rcases hu i hi with h' | h'
    · have := h.lt i h'; omega
    · exact h'.2⟩
@[reducible] def xorB (neg b : Bool) : Bool := match neg with | true => !b | false => b
theorem isnil_run {o : Oper} {neg : Bool} {x' : Opd} {fr : Frame} {st : Store} {nx : Nat} {I : Nat → Prop} {w : World} {m : M} {a : Act} {K : AV → Store → Nat → Prop} (hok : opOk P o.op (.isnil neg x') = true) (hf : FOn [x'] fr I w m a) (hH : HRel I w m st.get) (ev : evOp Γ (.isnil neg x') fr st nx K) :
    ∃ v cv, K v st nx ∧ RV I w m v cv ∧ (execOp a.eval o).run P w = .ok (.value cv) w := by
  simp only [opOk] at hok
  split at hok
  · rename_i op xt x y e ho
    simp only [Bool.and_eq_true, beq_iff_eq] at hok
    obtain ⟨⟨⟨hop, hx⟩, hy⟩, ht⟩ := hok
    obtain ⟨el, ht⟩ := isSlice_of ht
    have hy' : a.eval y = .slice none 0 0 := by
      unfold nilC at hy
      split at hy
      · rfl
      · cases hy
    have key : ∀ {ao : Option Addr} {len cap : Nat}, a.eval x = .slice ao len cap → (execOp a.eval o).run P w = .ok (.value (.bool (xorB neg ao.isNone))) w := fun {ao len cap} h => by
      have hr := eq_run (P := P) (w := w) (neg := neg) (xt := xt) (x := x) (y := y) (r := ao.isNone) (.inr (.inr (.inr ⟨_, _, _, _, _, _, h, hy'⟩))) (by rw [h, hy']; exact equalIn_slice (d := 9999) ht)
      refine exec_v (S := do eqGuard (if neg then .neq else .eql) xt x y (a.eval x) (a.eval y); binOp (if neg then .neq else .eql) xt (a.eval x) (a.eval y)) ?_ hr
      unfold execOp; rw [ho, hop]
    have hv := hf.rv (List.mem_cons_self ..) hx
    simp only [evOp] at ev
    split at ev
    · rename_i hb
      rw [hb] at hv
      have hv : a.eval x = .slice none 0 0 := hv
      refine ⟨_, _, ev, ?_, key hv⟩
      cases neg <;> exact mk_kb
    · rename_i t l hb
      rw [hb] at hv
      obtain ⟨ao, len, cap, h1, h2⟩ := hv
      obtain ⟨k1, k2, k3, k4⟩ := h2
      refine ⟨_, _, ev ao.isNone fun h => ?_, ?_, key h1⟩
      · rw [Option.isNone_iff_eq_none] at h; subst h
        rcases Nat.eq_zero_or_pos len with h0 | h0
        · exact List.eq_nil_of_length_eq_zero (by omega)
        · obtain ⟨b, o, e, _⟩ := k4 h0; cases e
      · cases neg <;> exact mk_bool
    · rename_i i hb
      split at ev
      · rename_i fz t l hl
        rw [hb] at hv
        obtain ⟨ao, len, cap, h1, q1, q2, q3, q4, q5, q6⟩ := hv
        refine ⟨_, _, ev ao.isNone fun h => ?_, ?_, key h1⟩
        · rw [Option.isNone_iff_eq_none] at h; subst h
          obtain ⟨_, r2, r3, _, _⟩ := hH.obj i _ hl
          rcases q6 with ⟨_, _, q6⟩ | ⟨b, _, e⟩
          · exact List.eq_nil_of_length_eq_zero (by omega)
          · cases e
        · cases neg <;> exact mk_bool
      · exact ev.elim
    · rename_i i off n hb
      rw [hb] at hv
      obtain ⟨ao, len, cap, h1, q1, q2, q3, q4, q5, q6⟩ := hv
      refine ⟨_, _, ev ao.isNone fun h => ?_, ?_, key h1⟩
      · rw [Option.isNone_iff_eq_none] at h; subst h
        rcases q6 with ⟨_, _, q6⟩ | ⟨b, o, _, e, _⟩
        · omega
        · cases e
      · cases neg <;> exact mk_bool
    · exact ev.elim
  · cases hok
theorem sop_run (hΓ : EnvOk P Γ) {o : Oper} {io : IOp} {fr : Frame} {st : Store} {nx : Nat} {I : Nat → Prop} {w : World} {m : M} {a : Act} {K : AV → Store → Nat → Prop} (hst : ∀ i, st.get i ≠ none → i < nx) (hok : opOk P o.op io = true) (hn : io.sup = false) (hS : io.supS = true)
    (hf : FOn io.opds fr I w m a) (hs : HS X0 I0 w0 st.get I w m) (hN : ∀ i, nx ≤ i → ¬ m.used i) (ev : evOp Γ io fr st nx K) : OpRun P o a w fun cv I' w' m' => ∃ v st1 nx', nx ≤ nx' ∧ K v st1 nx' ∧ Good X0 I0 w0 I w m st1.get v nx nx' cv I' w' m' := by
  have keep : (∃ v cv, K v st nx ∧ RV I w m v cv ∧ (execOp a.eval o).run P w = .ok (.value cv) w) → OpRun P o a w fun cv I' w' m' => ∃ v st1 nx', nx ≤ nx' ∧ K v st1 nx' ∧ Good X0 I0 w0 I w m st1.get v nx nx' cv I' w' m' := fun ⟨v, cv, hK, hv, hrun⟩ =>
    run_val (I' := I) (m' := m) hrun ⟨v, st, nx, Nat.le_refl _, hK, hv, hs, Evo.refl _ _ _, fun _ h => .inl h⟩
  have one : (∃ v st1, K v st1 nx ∧ OpRun P o a w (Good X0 I0 w0 I w m st1.get v nx nx)) → OpRun P o a w fun cv I' w' m' => ∃ v st1 nx', nx ≤ nx' ∧ K v st1 nx' ∧ Good X0 I0 w0 I w m st1.get v nx nx' cv I' w' m' := fun ⟨v, st1, hK, hrun⟩ =>
    fun N Q k => hrun N Q fun cv I' w' m' hg => k cv I' w' m' ⟨v, st1, nx, Nat.le_refl _, hK, hg⟩
  cases io with
  | isnil => exact keep (isnil_run hok hf hs.H ev)
  | _ => first | (cases hn; done) | (cases hS; done)
theorem step_sound (hΓ : EnvOk P Γ) {ops : Array Oper} {Q : Exit → Act → World → Prop} {o : Oper} {x : IOper} {r : List Oper} {fr : Frame} {st : Store} {nx : Nat} {I : Nat → Prop} {w : World} {m : M} {a : Act} {K : Frame → Store → Nat → Prop}
    (hok : operOkS P n ops o x = true) (h : Sta n k0 X0 I0 w0 m0 fr st nx I w m a)
    (ev : evGuard x.guard fr (fun fr => evOp Γ x.op fr st nx fun v st nx => K (putD x.dst v fr) st nx) fun fr => K (putD x.dst .skp fr) st nx)
    (rest : ∀ fr' st' nx' I' w' m' a', K fr' st' nx' → Sta n k0 X0 I0 w0 m0 fr' st' nx' I' w' m' a' → wpList P ops Q r a' w') :
    wpList P ops Q (o :: r) a w := by
  simp only [operOkS, Bool.and_eq_true] at hok
  obtain ⟨⟨⟨hd, hop⟩, hsup⟩, hg⟩ := hok
  obtain ⟨fr', t, ev', hfr, hw⟩ := guard_cases hg ev
  have h' := h.fr' hfr
  have hw := hw I w m a fun i _ _ => h.f i
  unfold wpList
  cases t with
  | true =>
    rw [if_pos hw]
    by_cases hn : x.op.sup = true
    · have hsup := hn
      obtain ⟨v, st1, nx', T, hle, hK, h3, _, run⟩ := op_mok (F := fun _ => True) hΓ h'.st_lt hsup hop (fun _ _ _ _ _ _ _ => trivial) (fun _ _ => trivial) ev'
      refine .inl (run (h'.f.on _) h'.hs (fun _ _ => rfl) (fun i h1 _ hu => by have := h'.lt i hu; omega) _ Q fun cv I' w' m' hgood => ?_)
      obtain ⟨q1, q2, q3, q4⟩ := hgood
      have hupd : upd st.get T st1 = st1.get := funext fun i => by
        unfold upd
        split
        · rfl
        · rename_i hi; exact (h3 i hi).symm
      rw [hupd] at q2
      exact rest _ _ _ _ _ _ _ hK ((h'.evo q2 q3 hle q4).put hd q1)
    · refine .inl (sop_run hΓ h'.st_lt hop (by simpa using hn) hsup (h'.f.on _) h'.hs (fun i h1 hu => by have := h'.lt i hu; omega) ev' _ Q fun cv I' w' m' hgood => ?_)
      obtain ⟨v, st1, nx', hle, hK, q1, q2, q3, q4⟩ := hgood
      exact rest _ _ _ _ _ _ _ hK ((h'.evo q2 q3 hle q4).put hd q1)
  | false =>
    rw [if_neg (by rw [hw]; simp)]
    exact rest _ _ _ _ _ _ _ ev' (h'.put hd (v := .skp) (cv := undef) rfl)
theorem ops_sound (hΓ : EnvOk P Γ) {ops : Array Oper} {Q : Exit → Act → World → Prop} {K : Frame → Store → Nat → Prop} : ∀ {os : List Oper} {ios : List IOper} {fr : Frame} {st : Store} {nx : Nat} {I : Nat → Prop} {w : World} {m : M} {a : Act},
    opersOk P n ops os ios = true → Sta n k0 X0 I0 w0 m0 fr st nx I w m a → evOps Γ ios fr st nx K →
    (∀ fr' st' nx' I' w' m' a', K fr' st' nx' → Sta n k0 X0 I0 w0 m0 fr' st' nx' I' w' m' a' → Q .normal a' w') → wpList P ops Q os a w
  | [], [], fr, st, nx, I, w, m, a, _, h, ev, fin => fin _ _ _ _ _ _ _ ev h
  | o :: r, x :: l, fr, st, nx, I, w, m, a, hok, h, ev, fin => by
    simp only [opersOk, Bool.and_eq_true] at hok
    rw [evOps_cons] at ev
    exact step_sound (K := fun fr st nx => evOps Γ l fr st nx K) hΓ hok.1 h ev fun fr' st' nx' I' w' m' a' hK hS => ops_sound hΓ hok.2 hS hK fin
  | [], _ :: _, _, _, _, _, _, _, _, hok, _, _, _ => by cases hok
  | _ :: _, [], _, _, _, _, _, _, _, hok, _, _, _ => by cases hok
theorem mkSt_get : ∀ (l : List Obj) (k i : Nat), (mkSt k l).get i = if k ≤ i then l[i - k]? else none
  | [], k, i => by simp [mkSt, Store.get]
  | o :: r, k, i => by
    show Store.get ((k, o) :: mkSt (k + 1) r) i = _
    rw [Store.get_cons, mkSt_get r (k + 1) i]
    by_cases h : i = k
    · subst h; simp
    · rw [if_neg h]
      by_cases h2 : k ≤ i
      · rw [if_pos (by omega), if_pos h2, show i - k = (i - (k + 1)) + 1 by omega]; rfl
      · rw [if_neg (by omega), if_neg h2]
theorem mkSt_ofL (l : List Obj) : (mkSt 0 l).get = ofL l := funext fun i => by rw [mkSt_get, if_pos (Nat.zero_le _)]; rfl
theorem rangeN_get : ∀ (n i j : Nat), (rangeN i n)[j]? = if j < n then some (i + j) else none
  | 0, i, j => by simp [rangeN]
  | n + 1, i, j => by
    unfold rangeN
    cases j with
    | zero => simp
    | succ j => rw [List.getElem?_cons_succ, rangeN_get n (i + 1) j]; by_cases h : j < n <;> simp [h, show i + 1 + j = i + (j + 1) by omega]
theorem rangeN_ge : ∀ {n i k : Nat}, k ∈ rangeN i n → i ≤ k
  | 0, i, k, h => by cases h
  | n + 1, i, k, h => by
    unfold rangeN at h
    rcases List.mem_cons.1 h with rfl | h
    · exact Nat.le_refl _
    · have := rangeN_ge h; omega
theorem rangeN_nodup : ∀ (n i : Nat), (rangeN i n).Nodup
  | 0, _ => List.nodup_nil
  | n + 1, i => by
    unfold rangeN
    exact List.nodup_cons.2 ⟨fun h => by have := rangeN_ge h; omega, rangeN_nodup n (i + 1)⟩
theorem rangeN_len : ∀ (n i : Nat), (rangeN i n).length = n
  | 0, _ => rfl
  | n + 1, i => by simp [rangeN, rangeN_len n (i + 1)]
theorem zipF_rel {I : Nat → Prop} {w : World} {m : M} {a : Act} : ∀ {live : List Nat} {vs : List AV}, RVL2 I w m vs (live.map fun i => a.tmps.getD i undef) → FRel I w m (zipF live vs).get a
  | [], [], _ => fun _ => trivial
  | i :: l, v :: r, h => fun j => by
    show RV I w m (Frame.get ((i, v) :: zipF l r) j) _
    rw [Frame.get_cons]
    split
    · rename_i e; subst e; exact RV_of h.1
    · exact zipF_rel h.2 j
  | [], _ :: _, h => h.elim
  | _ :: _, [], h => h.elim
theorem canK_sound {live : List Nat} {fr : Frame} {st : Store} {nx : Nat} {I : Nat → Prop} {w : World} {m : M} {a : Act} {K : List AV → List Obj → Prop} (h : Sta n k0 X0 I0 w0 m0 fr st nx I w m a) (ev : canK k0 live fr st K) :
    ∃ vs os, K vs os ∧ ∃ m', Sta n k0 X0 I0 w0 m0 (zipF live vs) (mkSt 0 os) os.length I w m' a ∧ RVL2 I w m' vs (live.map fun i => a.tmps.getD i undef) := by
  unfold canK at ev
  rcases nrmL2_cases (live.map fr.get) with h' | ⟨l', e1, e2, e3⟩
  · exact absurd ev (h' _)
  · rw [e1] at ev
    obtain ⟨vs, ρ1, c1, c2, c3, c4⟩ := canL2_eq nx l' (upto k0)
    rw [c1] at ev
    rcases canSt_cases st nx 1000 0 ρ1 (Nat.zero_le _) with h' | ⟨os, ρ, d1, d2, d3, d4⟩
    · exact absurd ev (h' _)
    · rw [d1] at ev
      rw [Nat.zero_add] at d3
      have d4 : ∀ k (h : k < os.length) (h' : k < ρ.length), ∃ o, st.get ρ[k] = some o ∧ ObjCan nx ρ o os[k] := fun k h h' => by
        have := d4 k h (by omega)
        simpa only [Nat.zero_add] using this
      have hpre := c2.trans d2
      have hnod : ρ.Nodup := hpre.nodup (rangeN_nodup k0 0)
      have hk0 : ∀ i, i < k0 → ∃ h : i < ρ.length, ρ[i] = i := fun i hi => by
        have hl : i < (upto k0).length := by unfold upto; rw [rangeN_len]; exact hi
        refine ⟨Nat.lt_of_lt_of_le hl hpre.len, ?_⟩
        rw [← hpre.pre.getElem hl]
        have := rangeN_get k0 0 i
        rw [if_pos hi, List.getElem?_eq_getElem (by rw [rangeN_len]; exact hi)] at this
        have e := Option.some.inj this
        simpa [upto] using e
      have hl2 : RVL2 I w m l' (live.map fun i => a.tmps.getD i undef) := e3 (by simp) fun i h1 h2 => by
        simp only [List.getElem_map]; exact h.f _
      have huse : ∀ j, j < ρ.length → Un (locM m ρ nx) m (un ρ nx) j := fun j hj => ⟨hj, rfl, rfl, rfl, rfl⟩
      have hvs : vs.map (ren2 (un ρ nx)) = l' := by
        rw [← c3]
        exact List.map_congr_left fun v hv => ren2_congr fun j hj => d2.un (c4 j (List.mem_flatMap.2 ⟨v, hv, hj⟩))
      rw [← hvs] at hl2
      have hl3 := RVL2_unren (fun j hj => huse j (Nat.lt_of_lt_of_le (c4 j hj) d2.len)) hl2
      have hH := call_HRel (js := []) (nx := nx) h.hs.H hnod d3 d4 (fun i hi => (by cases hi)) (fun i hi => (by cases hi))
      have hIb : Ib I m [] = I := funext fun b => propext ⟨fun h => h.elim id fun ⟨i, hi, _⟩ => (by cases hi), .inl⟩
      rw [hIb] at hH
      refine ⟨vs, os, ev, locM m ρ nx, ⟨h.size, h.defers, zipF_rel hl3, ⟨by rw [mkSt_ofL]; exact hH, h.hs.fr0, h.hs.Isub, h.hs.Inew, fun i o b e hm hb => ?_, fun i o b e hm hb => ?_⟩, h.same, fun i hi => ?_, fun i hi => by rw [d3]; exact hi⟩, hl3⟩
      · rw [mkSt_ofL] at e
        unfold ofL at e
        obtain ⟨hi, e⟩ := List.getElem?_eq_some_iff.1 e
        obtain ⟨o', g1, g2⟩ := d4 i hi (by omega)
        simp only [locM, un_lt (show i < ρ.length by omega)] at hb
        exact h.hs.own _ o' b g1 (by rw [← g2.same.1, e]; exact hm) hb
      · rw [mkSt_ofL] at e
        unfold ofL at e
        obtain ⟨hi, e⟩ := List.getElem?_eq_some_iff.1 e
        obtain ⟨o', g1, g2⟩ := d4 i hi (by omega)
        simp only [locM, un_lt (show i < ρ.length by omega)] at hb
        exact h.hs.ownL _ o' b g1 (by rw [← g2.same.2, e]; exact hm) hb
      · obtain ⟨h1, h2⟩ := hk0 i hi
        refine ⟨h1, ?_⟩
        have := (h.kept i hi).2
        unfold M.same at this ⊢
        simp only [locM, un_lt h1, h2]; exact this
def toEx : Exit → Option Ex
  | .normal => some .normal
  | .exit i => some (.exit i)
  | .ret => some .ret
  | _ => none
def QQ (n k0 : Nat) (X0 : Bool → Nat → Prop) (I0 : Nat → Prop) (w0 : World) (m0 : M) (K : Kont) : Exit → Act → World → Prop := fun e a w =>
  ∃ x, toEx e = some x ∧ ∃ fr st nx I m, K x fr st nx ∧ Sta n k0 X0 I0 w0 m0 fr st nx I w m a
end
end Go.Eng
