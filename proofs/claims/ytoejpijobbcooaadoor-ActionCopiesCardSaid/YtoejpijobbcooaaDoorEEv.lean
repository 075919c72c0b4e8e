/- What pieces of code do; each operation, as it is claimed. No condition. -/
import Derived.Test.YtoejpijobbcooaaDoorECall4
namespace Go.Eng
set_option linter.unusedVariables false
set_option linter.unusedSimpArgs false
open Go.RowKit
inductive Ex where
  | normal
  | exit (i : Nat)
  | ret
abbrev Kont := Ex → Frame → Store → Nat → Prop
def evGuard (g : Option (Nat × Bool)) (fr : Frame) (run skip : Frame → Prop) : Prop := match g with
  | none => run fr
  | some (g, b) => match fr.get g with
    | .bool t => cnd t (match b with | true => run ((g, .kb true) :: fr) | false => skip ((g, .kb true) :: fr)) (match b with | true => skip ((g, .kb false) :: fr) | false => run ((g, .kb false) :: fr))
    | .kb t => match t, b with
      | true, true => run fr
      | false, false => run fr
      | true, false => skip fr
      | false, true => skip fr
    | .skp => skip fr
    | _ => False
def putD (d : Option Nat) (v : AV) (fr : Frame) : Frame := match d with | none => fr | some d => (d, v) :: fr
def putDK (d : Option Nat) (v : AV) (fr : Frame) (K : Frame → Prop) : Prop := match d with | none => K fr | some d => K ((d, v) :: fr)
theorem putDK_eq (d : Option Nat) (v : AV) (fr : Frame) (K : Frame → Prop) : putDK d v fr K = K (putD d v fr) := by cases d <;> rfl
/-- A frame of some slots alone, laid bare. -/
def keepK : List Nat → Frame → (Frame → Prop) → Prop
  | [], _, K => K []
  | i :: r, fr, K => force (fr.get i) fun v => keepK r fr fun t => K ((i, v) :: t)
def keepF (l : List Nat) (fr : Frame) : Frame := l.map fun i => (i, fr.get i)
theorem keepK_eq : ∀ (l : List Nat) (fr : Frame) (K : Frame → Prop), keepK l fr K = K (keepF l fr)
  | [], _, _ => rfl
  | i :: r, fr, K => by unfold keepK; rw [force_eq]; exact keepK_eq r fr _
def bareSt : Store → (Store → Prop) → Prop
  | [], K => K []
  | (i, o) :: r, K => bareSt r fun r => K ((i, o) :: r)
theorem bareSt_eq : ∀ (st : Store) (K : Store → Prop), bareSt st K = K st
  | [], _ => rfl
  | (i, o) :: r, K => by unfold bareSt; exact bareSt_eq r _
/-- (By the recursor itself: the kernel then walks as the elaborator does.) -/
def evOps (Γ : Env) (l : List IOper) : Frame → Store → Nat → (Frame → Store → Nat → Prop) → Prop :=
  List.rec (motive := fun _ => Frame → Store → Nat → (Frame → Store → Nat → Prop) → Prop) (fun fr st nx K => K fr st nx)
    (fun x _ ih fr st nx K => evGuard x.guard fr (fun fr => evOp Γ x.op fr st nx fun v st nx => litN nx fun nx => putDK x.dst v fr fun fr => ih fr st nx K) fun fr => putDK x.dst .skp fr fun fr => ih fr st nx K) l
theorem evOps_cons {Γ : Env} {x : IOper} {l : List IOper} {fr : Frame} {st : Store} {nx : Nat} {K : Frame → Store → Nat → Prop} : evOps Γ (x :: l) fr st nx K = evGuard x.guard fr (fun fr => evOp Γ x.op fr st nx fun v st nx => evOps Γ l (putD x.dst v fr) st nx K) fun fr => evOps Γ l (putD x.dst .skp fr) st nx K := by
  show evGuard x.guard fr (fun fr => evOp Γ x.op fr st nx fun v st nx => litN nx fun nx => putDK x.dst v fr fun fr => evOps Γ l fr st nx K) (fun fr => putDK x.dst .skp fr fun fr => evOps Γ l fr st nx K) = _
  simp only [litN_eq, putDK_eq]
/-- What an operation looks at in the store. -/
def opFoot (io : IOp) (fr : Frame) : List Nat := match io with
  | .call _ f args => callIds f args fr
  | .box _ | .boxv _ | .arow _ _ _ | .mkmap _ _ | .slice0 _ | .mkrow _ _ _ _ _ | .s2b _ | .nilrow _ | .rngs _ => []
  | .store _ x y => storeFoot x y fr
  | io => match io.pure with | true => [] | false => footL io.opds fr
def opWr (Γ : Env) (io : IOp) (fr : Frame) : Bool := match io with
  | .call _ f _ => callWr Γ (f.ev fr)
  | .store _ _ _ | .sliceAll _ _ _ | .freeze _ | .append _ _ _ _ | .appendz _ _ _ _ _ | .copy _ _ _ | .nxts _ => true
  | _ => false
def isCall : IOp → Bool | .call _ _ _ => true | _ => false
/-- Those that are covered. -/
def IOp.sup : IOp → Bool
  | .mget _ _ _ _ _ _ | .mput _ _ _ _ _ | .mdel _ _ _ _ | .mentry _ _ _ _ _ | .mstore _ _ _ _ _ _ | .isnil _ _ => false
  | _ => true
/-- Those that stand in the written order. -/
def IOp.supS (o : IOp) : Bool := match o with | .isnil _ _ => true | o => o.sup
theorem op_mok {P : Program} {Γ : Env} {o : Oper} {io : IOp} {fr : Frame} {F : Nat → Prop} {st : Store} {nx : Nat} {K : AV → Store → Nat → Prop} (hΓ : EnvOk P Γ) (hst : ∀ i, st.get i ≠ none → i < nx) (hsup : io.sup = true) (hok : opOk P o.op io = true)
    (hcl : isCall io = true → Closed st F) (hfoot : ∀ i ∈ opFoot io fr, F i) (ev : evOp Γ io fr st nx K) : MOK2 P o io.opds fr F (opWr Γ io fr) st nx K := by
  by_cases hp : io.pure = true
  · exact MOK2.of (F := []) (wr := false) (mok_pure (pure_pok hp hok ev)) (fun i hi => (by cases hi)) (fun h => (by cases h))
  · cases io with
    | len => exact MOK2.of (wr := false) (len_mok hok ev) hfoot (fun h => (by cases h))
    | indexSl => exact MOK2.of (wr := false) (indexSl_mok hok ev) hfoot (fun h => (by cases h))
    | load => exact MOK2.of (wr := false) (load_mok hok ev) hfoot (fun h => (by cases h))
    | loadI => exact MOK2.of (wr := false) (loadI_mok hok ev) hfoot (fun h => (by cases h))
    | loadS => exact MOK2.of (wr := false) (loadS_mok hok ev) hfoot (fun h => (by cases h))
    | slice => exact MOK2.of (wr := false) (slice_mok hok ev) hfoot (fun h => (by cases h))
    | sarr => exact MOK2.of (wr := false) (sarr_mok hok ev) hfoot (fun h => (by cases h))
    | b2s => exact MOK2.of (wr := false) (b2s_mok hok ev) hfoot (fun h => (by cases h))
    | box => exact MOK2.of (F := []) (wr := false) (box_mok hok ev) (fun i hi => (by cases hi)) (fun h => (by cases h))
    | boxv => exact MOK2.of (F := []) (wr := false) (boxv_mok hok ev) (fun i hi => (by cases hi)) (fun h => (by cases h))
    | arow => exact MOK2.of (F := []) (wr := false) (arow_mok hok ev) (fun i hi => (by cases hi)) (fun h => (by cases h))
    | mkmap => exact MOK2.of (F := []) (wr := false) (mkmap_mok hok ev) (fun i hi => (by cases hi)) (fun h => (by cases h))
    | slice0 => exact MOK2.of (F := []) (wr := false) (slice0_mok hok ev) (fun i hi => (by cases hi)) (fun h => (by cases h))
    | mkrow => exact MOK2.of (F := []) (wr := false) (mkrow_mok hok ev) (fun i hi => (by cases hi)) (fun h => (by cases h))
    | s2b => exact MOK2.of (F := []) (wr := false) (s2b_mok hok ev) (fun i hi => (by cases hi)) (fun h => (by cases h))
    | sliceAll => exact MOK2.of (sliceAll_mok hok ev) hfoot (fun _ => rfl)
    | store => exact MOK2.of (store_mok hok ev) hfoot (fun _ => rfl)
    | freeze => exact MOK2.of (freeze_mok hok ev) hfoot (fun _ => rfl)
    | append => exact MOK2.of (append_mok hok ev) hfoot (fun _ => rfl)
    | appendz => exact MOK2.of (appendz_mok hok ev) hfoot (fun _ => rfl)
    | bad => exact ev.elim
    | rngs => exact MOK2.of (F := []) (wr := false) (rngs_mok hok ev) (fun i hi => (by cases hi)) (fun h => (by cases h))
    | nxts => exact MOK2.of (nxts_mok hok ev) hfoot (fun _ => rfl)
    | nilrow => exact MOK2.of (F := []) (wr := false) (nilrow_mok hok ev) (fun i hi => (by cases hi)) (fun h => (by cases h))
    | mlen => exact MOK2.of (wr := false) (mlen_mok hok ev) hfoot (fun h => (by cases h))
    | copy => exact MOK2.of (copy_mok hok ev) hfoot (fun _ => rfl)
    | call => exact call_mok hΓ hst hok (hcl rfl) hfoot ev
    | _ => first | exact absurd rfl hp | cases hsup
def forceN : List Nat → (List Nat → Prop) → Prop
  | [], K => K []
  | i :: r, K => litN i fun i => forceN r fun r => K (i :: r)
theorem forceN_eq : ∀ (l : List Nat) (K : List Nat → Prop), forceN l K = K l
  | [], _ => rfl
  | i :: r, K => by unfold forceN; rw [litN_eq]; exact forceN_eq r _
/-- Numbers and those behind them. -/
def stepIds (st : Store) : List Nat → List Nat
  | [] => []
  | i :: r => match st.get i with
    | some (.box l) => idsL0 l ++ stepIds st r
    | _ => stepIds st r
def closeL (st : Store) (l : List Nat) : List Nat :=
  l ++ (stepIds st l ++ (stepIds st (stepIds st l) ++ stepIds st (stepIds st (stepIds st l))))
/-- The same, each step laid bare. -/
def closeK (st : Store) (l : List Nat) (K : List Nat → Prop) : Prop :=
  forceN l fun l => forceN (stepIds st l) fun a => forceN (stepIds st a) fun b => forceN (stepIds st b) fun c => forceN (l ++ (a ++ (b ++ c))) K
theorem closeK_eq (st : Store) (l : List Nat) (K : List Nat → Prop) : closeK st l K = K (closeL st l) := by
  unfold closeK closeL; simp only [forceN_eq]
def subB : List Nat → List Nat → Bool
  | [], _ => true
  | i :: r, l => match memB i l with | true => subB r l | false => false
def closedB (st : Store) (F : List Nat) : Bool := subB (stepIds st F) F
theorem memB_in {i : Nat} : ∀ {l : List Nat}, memB i l = true → i ∈ l
  | [], h => by cases h
  | j :: r, h => by
    unfold memB at h
    cases hb : Nat.beq j i with
    | true => rw [Nat.eq_of_beq_eq_true hb]; exact List.mem_cons_self ..
    | false => rw [hb] at h; exact List.mem_cons_of_mem _ (memB_in h)
theorem subB_of : ∀ {l r : List Nat}, subB l r = true → ∀ i ∈ l, i ∈ r
  | [], _, _ => fun i hi => by cases hi
  | j :: l, r, h => fun i hi => by
    unfold subB at h
    cases hb : memB j r with
    | true =>
      rw [hb] at h
      rcases List.mem_cons.1 hi with rfl | hi
      · exact memB_in hb
      · exact subB_of h i hi
    | false => rw [hb] at h; cases h
theorem stepIds_mem {st : Store} : ∀ {F : List Nat} {i : Nat} {l : List AV}, i ∈ F → st.get i = some (.box l) → ∀ j ∈ idsL0 l, j ∈ stepIds st F
  | [], _, _, h, _ => by cases h
  | k :: r, i, l, h, hg => fun j hj => by
    unfold stepIds
    rcases List.mem_cons.1 h with rfl | h
    · rw [hg]; exact List.mem_append.2 (.inl hj)
    · have := stepIds_mem h hg j hj
      split
      · exact List.mem_append.2 (.inr this)
      · exact this
theorem closedB_of {st : Store} {F : List Nat} (h : closedB st F = true) : Closed st (· ∈ F) := fun i hi l hg j hj => subB_of h j (stepIds_mem hi hg j hj)
/-- What it looks at, whole. -/
def footK (io : IOp) (fr : Frame) (st : Store) (K : List Nat → Prop) : Prop := match isCall io with
  | true => closeK st (opFoot io fr) fun F => match closedB st F with | true => K F | false => False
  | false => forceN (opFoot io fr) K
theorem footK_cases {io : IOp} {fr : Frame} {st : Store} {K : List Nat → Prop} (h : footK io fr st K) : ∃ F, K F ∧ (isCall io = true → Closed st (· ∈ F)) ∧ ∀ i ∈ opFoot io fr, i ∈ F := by
  unfold footK at h
  cases hc : isCall io with
  | true =>
    rw [hc] at h
    simp only [closeK_eq] at h
    split at h
    · rename_i hb; exact ⟨_, h, fun _ => closedB_of hb, fun i hi => List.mem_append.2 (.inl hi)⟩
    · exact h.elim
  | false =>
    rw [hc] at h
    simp only [forceN_eq] at h
    exact ⟨_, h, fun e => (by cases e), fun i hi => hi⟩
def flipL (st st1 : Store) : List Nat → List Nat
  | [] => []
  | i :: r => match flipB st st1 i with | true => i :: flipL st st1 r | false => flipL st st1 r
theorem flipL_mem {st st1 : Store} : ∀ {F : List Nat} {i : Nat}, i ∈ F → flipB st st1 i = true → i ∈ flipL st st1 F
  | [], _, h, _ => by cases h
  | j :: r, i, h, hb => by
    unfold flipL
    rcases List.mem_cons.1 h with rfl | h
    · rw [hb]; exact List.mem_cons_self ..
    · have := flipL_mem h hb
      split
      · exact List.mem_cons_of_mem _ this
      · exact this
def rangeN : Nat → Nat → List Nat
  | _, 0 => []
  | i, n + 1 => i :: rangeN (i + 1) n
theorem rangeN_mem : ∀ {n i k : Nat}, i ≤ k → k < i + n → k ∈ rangeN i n
  | 0, i, k, h1, h2 => by omega
  | n + 1, i, k, h1, h2 => by
    unfold rangeN
    by_cases e : k = i
    · rw [e]; exact List.mem_cons_self ..
    · exact List.mem_cons_of_mem _ (rangeN_mem (by omega) (by omega))
/-- What it may have changed. -/
def wrL (wr : Bool) (F : List Nat) (st st1 : Store) (nx nx1 : Nat) : List Nat := (match wr with | true => F | false => flipL st st1 F) ++ rangeN nx (nx1 - nx)
def confl (hist : List (List Nat × List Nat)) (F W : List Nat) : List Nat → Bool
  | [] => true
  | j :: r => match hist.drop j with
    | (Fj, Wj) :: _ => match disj Wj F with
      | true => match disj Fj W with
        | true => confl hist F W r
        | false => false
      | false => false
    | [] => false
def evOpsD (Γ : Env) : List (IOper × List Nat) → List (List Nat × List Nat) → Frame → Store → Nat → (Frame → Store → Nat → Prop) → Prop
  | [], _, fr, st, nx, K => K fr st nx
  | (x, us) :: r, hist, fr, st, nx, K => evGuard x.guard fr
      (fun fr => footK x.op fr st fun F => evOp Γ x.op fr st nx fun v st1 nx1 => forceN (wrL (opWr Γ x.op fr) F st st1 nx nx1) fun W => match confl hist F W us with
        | true => evOpsD Γ r (hist ++ [(F, W)]) (putD x.dst v fr) st1 nx1 K
        | false => False)
      fun fr => evOpsD Γ r (hist ++ [([], [])]) (putD x.dst .skp fr) st nx K
/-- The same; what was done is told from the last one back, and 'us' by its gaps. -/
def conflR : List (List Nat × List Nat) → List Nat → List Nat → List Nat → Bool
  | _, _, _, [] => true
  | h, F, W, g :: r => match h.drop g with
    | (Fj, Wj) :: t => match disj Wj F with
      | true => match disj Fj W with
        | true => conflR t F W r
        | false => false
      | false => false
    | [] => false
def conflE (h : List (List Nat × List Nat)) (F W us : List Nat) : Bool := match F with
  | [] => match W with
    | [] => true
    | _ :: _ => conflR h F W us
  | _ :: _ => conflR h F W us
def evOpsR (Γ : Env) (l : List (IOper × List Nat)) : List (List Nat × List Nat) → Frame → Store → Nat → (Frame → Store → Nat → Prop) → Prop :=
  List.rec (motive := fun _ => List (List Nat × List Nat) → Frame → Store → Nat → (Frame → Store → Nat → Prop) → Prop) (fun _ fr st nx K => K fr st nx)
    (fun x _ ih hist fr st nx K => evGuard x.1.guard fr
      (fun fr => footK x.1.op fr st fun F => evOp Γ x.1.op fr st nx fun v st1 nx1 => litN nx1 fun nx1 => forceN (wrL (opWr Γ x.1.op fr) F st st1 nx nx1) fun W => match conflE hist F W x.2 with
        | true => putDK x.1.dst v fr fun fr => ih ((F, W) :: hist) fr st1 nx1 K
        | false => False)
      fun fr => putDK x.1.dst .skp fr fun fr => ih (([], []) :: hist) fr st nx K) l
def usA : Nat → List Nat → List Nat
  | _, [] => []
  | k, g :: r => (k - 1 - g) :: usA (k - 1 - g) r
def absA : Nat → List (IOper × List Nat) → List (IOper × List Nat)
  | _, [] => []
  | k, x :: r => (x.1, usA k x.2) :: absA (k + 1) r
theorem conflR_of {full : List (List Nat × List Nat)} {F W : List Nat} : ∀ {us : List Nat} {k : Nat}, k ≤ full.length → conflR (full.take k).reverse F W us = true → confl full F W (usA k us) = true
  | [], _, _, _ => rfl
  | g :: r, k, hk, h => by
    unfold conflR at h
    split at h
    · rename_i Fj Wj t hd
      have hl : g < (full.take k).reverse.length := by
        rcases Nat.lt_or_ge g (full.take k).reverse.length with h' | h'
        · exact h'
        · rw [List.drop_of_length_le h'] at hd; cases hd
      have hgk : g < k := by rw [List.length_reverse, List.length_take] at hl; omega
      rw [List.drop_eq_getElem_cons hl] at hd
      injection hd with h1 h2
      have e1 : full[k - 1 - g]? = some (Fj, Wj) := by
        rw [← h1, List.getElem_reverse, List.getElem_take, List.getElem?_eq_getElem (by omega)]
        simp only [List.length_take, Nat.min_eq_left hk]
      have e2 : (full.take (k - 1 - g)).reverse = t := by
        rw [← h2, List.drop_reverse, List.length_take, Nat.min_eq_left hk, List.take_take, Nat.min_eq_left (by omega), show k - 1 - g = k - (g + 1) by omega]
      have e3 : full.drop (k - 1 - g) = (Fj, Wj) :: full.drop (k - 1 - g + 1) := by
        have hlt : k - 1 - g < full.length := by omega
        rw [List.drop_eq_getElem_cons hlt]
        rw [List.getElem?_eq_getElem hlt] at e1
        rw [Option.some.inj e1]
      split at h
      · rename_i d1
        split at h
        · rename_i d2
          show confl full F W ((k - 1 - g) :: usA (k - 1 - g) r) = true
          unfold confl
          rw [e3]
          simp only []
          rw [d1]; simp only []
          rw [d2]; simp only []
          exact conflR_of (by omega) (by rw [e2]; exact h)
        · cases h
      · cases h
    · cases h
theorem confl_nil {hist : List (List Nat × List Nat)} : ∀ {us : List Nat}, (∀ j ∈ us, j < hist.length) → confl hist [] [] us = true
  | [], _ => rfl
  | j :: r, h => by
    have hj := h j (List.mem_cons_self ..)
    unfold confl
    rw [List.drop_eq_getElem_cons hj]
    generalize hist[j] = x
    obtain ⟨Fj, Wj⟩ := x
    have d1 : ∀ l : List Nat, disj l [] = true := fun l => by induction l with
      | nil => rfl
      | cons a t ih => exact ih
    simp only [d1, disj]
    exact confl_nil fun j hj => h j (List.mem_cons_of_mem _ hj)
theorem conflE_of {full : List (List Nat × List Nat)} {F W us : List Nat} {k : Nat} (hk : full.length = k) (hu : ∀ j ∈ usA k us, j < k) (h : conflE full.reverse F W us = true) : confl full F W (usA k us) = true := by
  have key : conflR full.reverse F W us = true → confl full F W (usA k us) = true := fun h => conflR_of (by omega) (by rw [List.take_of_length_le (by omega)]; exact h)
  unfold conflE at h
  split at h
  · split at h
    · exact confl_nil fun j hj => by rw [hk]; exact hu j hj
    · exact key h
  · exact key h
def Kont.block (id : Nat) (K : Kont) : Kont := fun e fr st nx => match e with
  | .exit i => match Nat.beq i id with | true => K .normal fr st nx | false => K (.exit i) fr st nx
  | .normal => K .normal fr st nx
  | .ret => K .ret fr st nx
def Kont.seq (n : Frame → Store → Nat → Prop) (K : Kont) : Kont := fun e fr st nx => match e with
  | .normal => n fr st nx
  | .exit i => K (.exit i) fr st nx
  | .ret => K .ret fr st nx
def unroll (body : Kont → Frame → Store → Nat → Prop) (K : Kont) : Nat → Frame → Store → Nat → Prop
  | 0, _, _, _ => False
  | n + 1, fr, st, nx => body (K.seq fun fr st nx => unroll body K n fr st nx) fr st nx
def mkSt : Nat → List Obj → Store
  | _, [] => []
  | i, o :: r => (i, o) :: mkSt (i + 1) r
def zipF : List Nat → List AV → Frame
  | i :: l, v :: r => (i, v) :: zipF l r
  | _, _ => []
def upto : Nat → List Nat := fun k => rangeN 0 k
/-- A state told by its own numbers: what some slots hold, and the things. -/
def canK (k0 : Nat) (live : List Nat) (fr : Frame) (st : Store) (K : List AV → List Obj → Prop) : Prop :=
  nrmL2 (live.map fr.get) fun vs => canL2 vs (upto k0) fun vs ρ => canSt st 1000 0 ρ fun os _ => K vs os
/-- A loop: by rounds, or by what holds at its head. -/
def loopK (k0 : Nat) (body : Kont → Frame → Store → Nat → Prop) (K : Kont) (fr : Frame) (st : Store) (nx : Nat) : Prop := ∀ r : Prop,
  ((∃ n, unroll body K n fr st nx) → r) →
  ((∃ (live : List Nat) (α : Type) (J : α → Prop) (V : α → List AV) (O : α → List Obj) (μ : α → Nat), canK k0 live fr st (fun vs os => ∃ a, J a ∧ vs = V a ∧ os = O a) ∧
    ∀ a, J a → body (K.seq fun fr st _ => canK k0 live fr st fun vs os => post (∃ a', J a' ∧ μ a' < μ a ∧ vs = V a' ∧ os = O a')) (zipF live (V a)) (mkSt 0 (O a)) (O a).length) → r) → r
def cutK (k0 : Nat) (body : Kont → Frame → Store → Nat → Prop) (K : Kont) (fr : Frame) (st : Store) (nx : Nat) : Prop := ∀ r : Prop,
  (body K fr st nx → r) →
  ((∃ (live : List Nat) (α : Type) (V : α → List AV) (O : α → List Obj), body (K.seq fun fr st _ => canK k0 live fr st fun vs os => post (∃ a, vs = V a ∧ os = O a)) fr st nx ∧
    ∀ a, K .normal (zipF live (V a)) (mkSt 0 (O a)) (O a).length) → r) → r
/-- What a test tells. -/
def knowF (c : Opd) (b : Bool) (fr : Frame) : Frame := match c with | .t i => (i, .kb b) :: fr | _ => fr
def evC (Γ : Env) (k0 : Nat) (ir : IR) : Kont → Frame → Store → Nat → Prop :=
  IR.rec (motive := fun _ => Kont → Frame → Store → Nat → Prop)
    (fun K fr st nx => K .normal fr st nx)
    (fun ops K fr st nx => evOps Γ ops fr st nx fun fr st nx => K .normal fr st nx)
    (fun ops K fr st nx => evOpsR Γ ops [] fr st nx fun fr st nx => K .normal fr st nx)
    (fun _ _ iha ihb K fr st nx => iha (K.seq fun fr st nx => ihb K fr st nx) fr st nx)
    (fun c _ _ iha ihb K fr st nx => match c.ev fr with
      | .bool t => cnd t (iha K (knowF c true fr) st nx) (ihb K (knowF c false fr) st nx)
      | .kb t => match t with | true => iha K fr st nx | false => ihb K fr st nx
      | _ => False)
    (fun id _ ih K fr st nx => ih (K.block id) fr st nx)
    (fun _ ih K fr st nx => loopK k0 ih K fr st nx)
    (fun _ ih K fr st nx => cutK k0 ih K fr st nx)
    (fun l _ ih K fr st nx => keepK l fr fun fr => bareSt st fun st => ih K fr st nx)
    (fun i K fr st nx => K (.exit i) fr st nx)
    (fun K fr st nx => K .ret fr st nx) ir
end Go.Eng
