/- From a summary to what a statement asks. No condition. -/
import Derived.Test.YtoejpijobbcooaaDoorESum
namespace Go.Eng
set_option linter.unusedVariables false
set_option linter.unusedSimpArgs false
open Go.RowKit
def allB0 (w : World) : Nat → Prop := fun b => b < w.heap.size
def noM : M := ⟨fun _ => none, fun _ => 0, fun _ => 0, fun _ => 0, fun _ => False⟩
theorem law_of_ro {P : Program} {id : FuncId} {f : List AV → List Obj → Option (Prop × AV)} (h : SoundS P id (RoF f).sum) {w : World} {args : List AV} {cargs : Array Value} (hA : RVL2 (allB0 w) w noM args cargs.toList) (hf : f args [] = some (True, .bool true)) :
    Calls P id cargs w fun e w' => e = .returned (.bool true) ∧ Below w.heap.size w w' := by
  have hH : HRel (allB0 w) w noM (ofL []) := ⟨fun i hi => absurd rfl hi, fun i o e => (by cases e), fun i j o o' b e => (by cases e), fun i o b e => (by cases e), fun i t x b e => (by cases e), fun b hb => hb⟩
  have hS : (RoF f).sum args [] (fun v _ => v = .bool true) := by
    simp only [RoF, SumK.sum, hf]
    exact need_of trivial fun _ => trivial
  refine (h.2.2 hH hA (fun i hi => hi.elim) hS).mono ?_
  rintro e w' ⟨v, cv, objs', I', m', rfl, rfl, hL⟩
  have hv : cv = .bool true := hL.rv
  subst hv
  exact ⟨rfl, hL.fr.below fun b _ ⟨i, o, e, _⟩ => by cases e⟩
theorem arg_int {I : Nat → Prop} {w : World} {m : M} {k : IntKind} {n : Int} (h : (Lit.int k n).wf = true) : RV2 I w m (.int k n) (.int k n) := by
  refine RV2_of (RV1_of ⟨rfl, ?_⟩)
  simpa [Lit.wf, inK] using h
theorem arg_nil {I : Nat → Prop} {w : World} {m : M} {t : Ty} : RV2 I w m (.imm t []) (.slice none 0 0) :=
  RV2_of (RV1_of ⟨none, 0, 0, rfl, rfl, Nat.le_refl _, Nat.zero_le _, fun h => absurd h (by omega)⟩)
theorem arg_ints {w : World} {m : M} {k : IntKind} {x : Addr} {len cap : Nat} {zs : List Int} (hl : len ≤ cap) (hm : cap ≤ maxLen) (hz : zs.length = cap)
    (hc : ∀ i, i < zs.length → w.cell? (x.add i) = some (.int k (zs.getD i 0))) (hw : ∀ n ∈ zs, (Lit.int k n).wf = true) : RV2 (allB0 w) w m (.imm (.int k) (zs.take len)) (.slice (some x) len cap) := by
  refine RV2_of (RV1_of ⟨some x, len, cap, rfl, RS_ea.2 ⟨by simp; omega, hl, hm, fun h0 => ?_⟩⟩)
  obtain ⟨b, off, spot⟩ := x
  have h1 := hc 0 (by omega)
  have hspot : spot = none := by simpa [Addr.add] using World.cell?_spot h1
  subst hspot
  refine ⟨b, off, rfl, ?_, fun i hi => ?_⟩
  · unfold allB0
    simp only [addr_add] at h1
    unfold World.cell? at h1
    cases hb : w.heap[b]? with
    | none => simp [hb] at h1
    | some o => exact lt_of_get hb
  · have hi' : i < zs.length := by simp at hi; omega
    refine ⟨[.int k ((zs.take len)[i])], ⟨rfl, ?_⟩, fun j hj => ?_⟩
    · have := hw zs[i] (List.getElem_mem hi')
      rw [List.getElem_take]
      simpa [Lit.wf, inK] using this
    · simp only [List.length_singleton] at hj
      have hj0 : j = 0 := by omega
      subst hj0
      have h2 := hc i hi'
      rw [addr_add] at h2
      simp only [Ty.size, Nat.mul_one, Nat.add_zero, List.getElem_cons_zero, List.getElem_take]
      rw [h2, List.getD_eq_getElem?_getD, List.getElem?_eq_getElem hi']
      rfl
theorem arg_str {I : Nat → Prop} {w : World} {m : M} {s : ByteArray} (h : s.size ≤ maxLen) : RV2 I w m (.str (bytesI s)) (.string s) := RV2_of (RV1_of ⟨s, rfl, rfl, h⟩)
end Go.Eng
