/- What a statement hands over, as data of the engine; and that it reads again as it did. No condition. -/
import Derived.Test.YtoejpijobbcooaaDoorELaw
import Derived.WalkKit
import Derived.ProofKit
import Derived.OpenShut
import Derived.ShutString
import Derived.ChangeOld
import Derived.Carry
namespace Go.Eng
set_option linter.unusedVariables false
set_option linter.unusedSimpArgs false
open Go.RowKit Go.ChangeShapes Go.WideShapes
/-- Is a type of the program one of these shapes? A part of one: fields from an offset on? -/
def tyB (P : Program) : Ty → (TypeId → Bool) × (List (TypeId × Nat) → Nat → Bool)
  | .int k => (fun t => match P.underlying t with | some (.int k') => k' == k | _ => false, fun _ _ => false)
  | .bool => (fun t => match P.underlying t with | some .bool => true | _ => false, fun _ _ => false)
  | .str => (fun t => match P.underlying t with | some .string => true | _ => false, fun _ _ => false)
  | .sl a => (fun t => match P.underlying t with | some (.slice e) => P.cellsOf e == a.size && decide (0 < a.size) && (tyB P a).1 e | _ => false, fun _ _ => false)
  | .nil => (fun t => match P.underlying t with | some (.struct fs) => fs.isEmpty && P.cellsOf t == 0 | _ => false, fun l _ => l.isEmpty)
  | .cons a b =>
    let p : List (TypeId × Nat) → Nat → Bool := fun l off => match l with
      | (t, o) :: r => o == off && P.cellsOf t == a.size && (tyB P a).1 t && (tyB P b).2 r (off + a.size)
      | [] => false
    (fun t => P.cellsOf t == a.size + b.size && (match P.underlying t with
      | some (.struct fs) => p (fs.toList.map fun f => (f.type, f.offset)) 0
      | some (.array n e) => p ((List.range n).map fun i => (e, i * P.cellsOf e)) 0
      | _ => false), p)
theorem wf_inK {k : IntKind} {n : Int} (h : (Lit.int k n).wf = true) : inK k n := by
  simpa [Lit.wf, inK] using h
section
variable {H : Type} {enc : TypeId × Value → H} {P : Program} {W : World}
theorem trod_rc : ∀ (ty : Ty), (∀ (fuel : Nat) (t : TypeId) (cs : List Value) (x : DataW H × List MemPlace), (tyB P ty).1 t = true → DataW.trod enc P W 0 (fun _ => true) true fuel t cs = some x → ∃ y : ty.den, RC (allB0 W) W ty y cs) ∧
    (∀ (fuel : Nat) (l : List (TypeId × Nat)) (off : Nat) (cs : List Value), (tyB P ty).2 l off = true → cs.length = off + ty.size → (∀ (i : Nat) t o, l[i]? = some (t, o) → ∃ x, DataW.trod enc P W 0 (fun _ => true) true fuel t ((cs.drop o).take (P.cellsOf t)) = some x) → ∃ y : ty.den, RC (allB0 W) W ty y (cs.drop off))
  | .int k => by
    refine ⟨fun fuel t cs x ht h => ?_, fun fuel l off cs h => by cases h⟩
    simp only [tyB] at ht
    split at ht
    · rename_i k' hu
      simp only [beq_iff_eq] at ht
      subst ht
      obtain ⟨n, rfl, _, hw⟩ := DataW.trod_int hu h
      exact ⟨n, rfl, wf_inK hw⟩
    · cases ht
  | .bool => by
    refine ⟨fun fuel t cs x ht h => ?_, fun fuel l off cs h => by cases h⟩
    simp only [tyB] at ht
    split at ht
    · rename_i hu
      obtain ⟨b, rfl, _⟩ := DataW.trod_bool hu h
      exact ⟨b, rfl⟩
    · cases ht
  | .str => by
    refine ⟨fun fuel t cs x ht h => ?_, fun fuel l off cs h => by cases h⟩
    simp only [tyB] at ht
    split at ht
    · rename_i hu
      obtain ⟨s, rfl, _, hs⟩ := DataW.trod_string hu h
      exact ⟨bytesI s, s, rfl, rfl, hs⟩
    · cases ht
  | .sl a => by
    refine ⟨fun fuel t cs x ht h => ?_, fun fuel l off cs h => by cases h⟩
    simp only [tyB] at ht
    split at ht
    · rename_i e hu
      simp only [Bool.and_eq_true, beq_iff_eq, decide_eq_true_eq] at ht
      obtain ⟨⟨hc, hpos0⟩, ha⟩ := ht
      rcases DataW.trod_slice hu h with ⟨rfl, _⟩ | ⟨ad, len, cap, elems, rest, n, _, rfl, _, hb, hl, hm, hlen, hel, _, _⟩
      · exact ⟨([] : List a.den), none, 0, 0, rfl, rfl, Nat.le_refl _, Nat.zero_le _, fun h => absurd h (by omega)⟩
      · have each : ∀ i, i < len → ∃ (y : a.den) (es : List Value), RC (allB0 W) W a y es ∧ es.length = a.size ∧ ∀ j (hj : j < es.length), W.cell? ((ad.add (i * a.size)).add j) = some es[j] := fun i hi => by
          have h1 := hel i hi
          rw [hc] at h1
          have hi' : i < elems.length := by omega
          rw [List.getElem?_eq_getElem hi'] at h1
          obtain ⟨es, e1, e2⟩ := Option.bind_eq_some_iff.1 h1
          obtain ⟨y, hy⟩ := (trod_rc a).1 n e es _ ha e2
          obtain ⟨_, k2, k3⟩ := World.cells?_some e1
          exact ⟨y, es, hy, k2, fun j hj => by rw [k3 j (by omega), List.getElem?_eq_getElem hj]⟩
        have build : ∀ m, m ≤ len → ∃ l : List a.den, l.length = m ∧ ∀ i (h : i < l.length), ∃ es, RC (allB0 W) W a l[i] es ∧ ∀ j (hj : j < es.length), W.cell? ((ad.add (i * a.size)).add j) = some es[j] := fun m => by
          induction m with
          | zero => intro _; exact ⟨[], rfl, fun i h => by simp at h⟩
          | succ m ih =>
            intro hm
            obtain ⟨l, h1, h2⟩ := ih (by omega)
            obtain ⟨y, es, h3, _, h4⟩ := each m (by omega)
            refine ⟨l ++ [y], by simp [h1], fun i hi => ?_⟩
            by_cases hlt : i < l.length
            · rw [List.getElem_append_left hlt]; exact h2 i hlt
            · have : i = m := by simp at hi; omega
              subst this
              rw [List.getElem_append_right (by omega)]
              simp only [List.getElem_singleton]
              exact ⟨es, h3, h4⟩
        obtain ⟨l, h1, h2⟩ := build len (Nat.le_refl _)
        refine ⟨l, some ad, len, cap, rfl, h1.symm, hl, hm, fun hpos => ?_⟩
        obtain ⟨es, q1, q2⟩ := h2 0 (by omega)
        have hes := RC_length a _ _ q1
        have hc0 := q2 0 (by omega)
        rw [Nat.zero_mul] at hc0
        obtain ⟨b, off, spot⟩ := ad
        have hspot : spot = none := by simpa [Addr.add] using World.cell?_spot hc0
        subst hspot
        refine ⟨b, off, rfl, ?_, fun i hi => ?_⟩
        · unfold allB0
          simp only [addr_add] at hc0
          unfold World.cell? at hc0
          cases hb : W.heap[b]? with
          | none => simp [hb] at hc0
          | some o => exact lt_of_get hb
        · obtain ⟨es, q1, q2⟩ := h2 i hi
          exact ⟨es, q1, fun j hj => by have := q2 j hj; rw [addr_add, addr_add] at this; exact this⟩
    · cases ht
  | .nil => by
    refine ⟨fun fuel t cs x ht h => ?_, fun fuel l off cs h hl _ => ⟨(), by simp only [RC]; exact List.drop_eq_nil_of_le (by simp [Ty.size] at hl; omega)⟩⟩
    simp only [tyB] at ht
    split at ht
    · rename_i fs hu
      simp only [Bool.and_eq_true, beq_iff_eq] at ht
      obtain ⟨xs, n, _, _, hl, _⟩ := DataW.trod_struct hu h
      rw [ht.2] at hl
      exact ⟨(), List.eq_nil_of_length_eq_zero hl⟩
    · cases ht
  | .cons a b => by
    have key : ∀ (fuel : Nat) (l : List (TypeId × Nat)) (off : Nat) (cs : List Value), (tyB P (.cons a b)).2 l off = true → cs.length = off + (a.size + b.size) → (∀ (i : Nat) t o, l[i]? = some (t, o) → ∃ x, DataW.trod enc P W 0 (fun _ => true) true fuel t ((cs.drop o).take (P.cellsOf t)) = some x) → ∃ y : (Ty.cons a b).den, RC (allB0 W) W (.cons a b) y (cs.drop off) := fun fuel l off cs h hl hx => by
      simp only [tyB] at h
      split at h
      · rename_i t o r
        simp only [Bool.and_eq_true, beq_iff_eq] at h
        obtain ⟨⟨⟨rfl, hc⟩, ha⟩, hr⟩ := h
        obtain ⟨x, h1⟩ := hx 0 t o rfl
        obtain ⟨y, hy⟩ := (trod_rc a).1 fuel t _ x ha h1
        obtain ⟨z, hz⟩ := (trod_rc b).2 fuel r (o + a.size) cs hr (by omega) fun i t' o' hi => hx (i + 1) t' o' (by simpa using hi)
        refine ⟨(y, z), ?_⟩
        simp only [RC]
        refine ⟨_, _, ?_, hy, hz⟩
        rw [hc, ← List.drop_drop, List.take_append_drop]
      · cases h
    refine ⟨fun fuel t cs x ht h => ?_, fun fuel l off cs h hl hx => key fuel l off cs h (by simpa [Ty.size] using hl) hx⟩
    have ht' : P.cellsOf t == a.size + b.size ∧ (match P.underlying t with
      | some (.struct fs) => (tyB P (.cons a b)).2 (fs.toList.map fun f => (f.type, f.offset)) 0
      | some (.array n e) => (tyB P (.cons a b)).2 ((List.range n).map fun i => (e, i * P.cellsOf e)) 0
      | _ => false) = true := by
      simp only [tyB, Bool.and_eq_true] at ht ⊢
      exact ht
    obtain ⟨hc, hm⟩ := ht'
    simp only [beq_iff_eq] at hc
    split at hm
    · rename_i fs hu
      obtain ⟨xs, n, _, _, hl, hn, hf⟩ := DataW.trod_struct hu h
      have := key n _ 0 cs hm (by omega) fun i t o hi => by
        rw [List.getElem?_map, Option.map_eq_some_iff] at hi
        obtain ⟨f, h1, h2⟩ := hi
        cases h2
        have h1' : fs[i]? = some f := by rw [← Array.getElem?_toList]; exact h1
        have hlt : i < xs.length := by rw [hn]; exact (Array.getElem?_eq_some_iff.1 h1').1
        exact ⟨xs[i], by rw [hf i f h1', List.getElem?_eq_getElem hlt]⟩
      rwa [List.drop_zero] at this
    · rename_i k e hu
      obtain ⟨xs, n, _, _, hl, hn, hf⟩ := DataW.trod_array hu h
      have := key n _ 0 cs hm (by omega) fun i t o hi => by
        rw [List.getElem?_map, Option.map_eq_some_iff] at hi
        obtain ⟨j, h1, h2⟩ := hi
        cases h2
        obtain ⟨hlt, rfl⟩ := List.getElem?_eq_some_iff.1 h1
        simp only [List.length_range] at hlt
        simp only [List.getElem_range]
        exact ⟨xs[i], by rw [hf i hlt, List.getElem?_eq_getElem (by omega)]⟩
      rwa [List.drop_zero] at this
    · cases hm
/-- What a shape's datum is as an argument. -/
def argOf (ty : Ty) (y : ty.den) : AV := match ty with
  | .nil => .agg (Ty.cells .nil y)
  | .cons a b => .agg (Ty.cells (.cons a b) y)
  | .int k => .int k y
  | .bool => .bool y
  | .str => .str y
  | .sl t => .imm t y
def ArgsOf : List Ty → List AV → Prop
  | [], [] => True
  | ty :: r, a :: l => (∃ y : ty.den, a = argOf ty y) ∧ ArgsOf r l
  | _, _ => False
def tysB (P : Program) : List Ty → List TypeId → Bool
  | [], [] => true
  | ty :: r, t :: l => (tyB P ty).1 t && tysB P r l
  | _, _ => false
theorem arg_rv {r : Reach} {b0 : Nat} {ty : Ty} {t : TypeId} {v : Value} {d : DataW H} {ps : List MemPlace} (ht : (tyB P ty).1 t = true) (hval : Value.okWide P W r b0 t v) (h : DataW.Trod enc P W 0 (fun _ => true) true t v d ps) :
    ∃ y : ty.den, RV2 (allB0 W) W noM (argOf ty y) v := by
  obtain ⟨fuel, hf⟩ := h
  obtain ⟨y, hy⟩ := (trod_rc ty).1 fuel t _ _ ht hf
  refine ⟨y, ?_⟩
  have hcells := RC_cells (m := noM) ty y _ hy
  cases ty with
  | int k =>
    simp only [tyB] at ht
    split at ht
    · rename_i k' hu
      obtain ⟨n, rfl⟩ := okWide_int hu hval
      exact RV2_of (RV1_of hcells.1)
    · cases ht
  | bool =>
    simp only [tyB] at ht
    split at ht
    · rename_i hu
      obtain ⟨n, rfl⟩ := okWide_bool hu hval
      exact RV2_of (RV1_of hcells.1)
    · cases ht
  | str =>
    simp only [tyB] at ht
    split at ht
    · rename_i hu
      obtain ⟨n, rfl⟩ := okWide_string hu hval
      exact RV2_of (RV1_of hcells.1)
    · cases ht
  | sl a =>
    simp only [tyB] at ht
    split at ht
    · rename_i e hu
      obtain ⟨ao, n, c, rfl⟩ := okWide_slice hu hval
      exact RV2_of (RV1_of hcells.1)
    · cases ht
  | nil =>
    simp only [tyB] at ht
    split at ht
    · rename_i fs hu
      obtain ⟨cs, rfl, _⟩ := okWide_struct hu hval
      exact RV2_of ⟨cs, rfl, hcells⟩
    · cases ht
  | cons a b =>
    have ha : ∃ cs, v = .agg cs := by
      simp only [tyB, Bool.and_eq_true] at ht
      obtain ⟨_, ht⟩ := ht
      split at ht
      · rename_i fs hu
        obtain ⟨cs, rfl, _⟩ := okWide_struct hu hval; exact ⟨cs, rfl⟩
      · rename_i n e hu
        simp only [Value.okWide, hu] at hval
        obtain ⟨cs, h1, _⟩ := hval; exact ⟨cs, h1⟩
      · cases ht
    obtain ⟨cs, rfl⟩ := ha
    exact RV2_of ⟨cs, rfl, hcells⟩
theorem args_open {r : Reach} {b0 : Nat} : ∀ {tys : List Ty} {ts : List TypeId} {vs : List Value} {ds : List (DataW H)} {ps : List MemPlace}, tysB P tys ts = true → (∀ (j : Nat) t v, ts[j]? = some t → vs[j]? = some v → Value.okWide P W r b0 t v) →
    DataW.TrodAll enc P W 0 (fun _ => true) true ts vs ds ps → ∃ avs, RVL2 (allB0 W) W noM avs vs ∧ ArgsOf tys avs
  | [], [], [], [], _, _, _, _ => ⟨[], trivial, trivial⟩
  | ty :: r, t :: ts, v :: vs, d :: ds, ps, ht, hv, h => by
    simp only [tysB, Bool.and_eq_true] at ht
    obtain ⟨p, q, h1, h2, rfl⟩ := h
    obtain ⟨y, hy⟩ := arg_rv ht.1 (hv 0 t v rfl rfl) h1
    obtain ⟨avs, h3, h4⟩ := args_open ht.2 (fun j t v h h' => hv (j + 1) t v (by simpa using h) (by simpa using h')) h2
    exact ⟨_ :: avs, ⟨hy, h3⟩, ⟨y, rfl⟩, h4⟩
  | [], _ :: _, _, _, _, ht, _, _ => by cases ht
  | _ :: _, [], _, _, _, ht, _, _ => by cases ht
  | [], [], _ :: _, _, _, _, _, h => h.elim
  | [], [], [], _ :: _, _, _, _, h => h.elim
  | _ :: _, _ :: _, [], _, _, _, _, h => h.elim
  | _ :: _, _ :: _, _ :: _, [], _, _, _, h => h.elim
theorem trodAll_len : ∀ {ts : List TypeId} {vs : List Value} {ds : List (DataW H)} {ps : List MemPlace}, DataW.TrodAll enc P W 0 (fun _ => true) true ts vs ds ps → ds.length = ts.length
  | [], [], [], _, _ => rfl
  | _ :: _, _ :: _, _ :: _, _, ⟨_, _, _, h, _⟩ => by rw [List.length_cons, List.length_cons, trodAll_len h]
  | [], _ :: _, _, _, h => h.elim
  | [], [], _ :: _, _, h => h.elim
  | _ :: _, [], _, _, h => h.elim
  | _ :: _, _ :: _, [], _, h => h.elim
def tsB (P : Program) : List TypeId → Bool
  | [] => true
  | t :: r => P.readableRec t && decide (t < P.types.size) && tsB P r
theorem len1 {α : Type} : ∀ {l : List α}, l.length = 1 → ∃ a, l = [a]
  | [a], _ => ⟨a, rfl⟩
theorem len2 {α : Type} : ∀ {l : List α}, l.length = 2 → ∃ a b, l = [a, b]
  | [a, b], _ => ⟨a, b, rfl⟩
theorem len3 {α : Type} : ∀ {l : List α}, l.length = 3 → ∃ a b c, l = [a, b, c]
  | [a, b, c], _ => ⟨a, b, c, rfl⟩
theorem len4 {α : Type} : ∀ {l : List α}, l.length = 4 → ∃ a b c d, l = [a, b, c, d]
  | [a, b, c, d], _ => ⟨a, b, c, d, rfl⟩
theorem len5 {α : Type} : ∀ {l : List α}, l.length = 5 → ∃ a b c d e, l = [a, b, c, d, e]
  | [a, b, c, d, e], _ => ⟨a, b, c, d, e, rfl⟩
/-- What was there reads as it did. -/
theorem args_again (hl : laidOutB P = true) {W' : World} (hb : Below W.heap.size W W') : ∀ {ts : List TypeId} {vs : List Value} {ds : List (DataW H)} {ps : List MemPlace}, tsB P ts = true →
    DataW.TrodAll enc P W 0 (fun _ => true) true ts vs ds ps → DataW.TrodAll enc P W' 0 (fun b => decide (b < W.heap.size)) true ts vs ds ps
  | [], [], [], _, _, h => h
  | t :: ts, v :: vs, d :: ds, ps, ht, h => by
    simp only [tsB, Bool.and_eq_true, decide_eq_true_eq] at ht
    obtain ⟨p, q, h1, h2, rfl⟩ := h
    have lt : ∀ x ∈ p, x.block < W.heap.size := by obtain ⟨m, hm⟩ := h1; exact DataW.trod_lt m _ _ _ hm
    exact trodAll_cons_mk (Below.trod hl ht.1.1 ht.1.2 h1 hb lt) (args_again hl hb ht.2 h2)
  | [], _ :: _, _, _, _, h => h.elim
  | [], [], _ :: _, _, _, h => h.elim
  | _ :: _, [], _, _, _, h => h.elim
  | _ :: _, _ :: _, [], _, _, h => h.elim
end
end Go.Eng
