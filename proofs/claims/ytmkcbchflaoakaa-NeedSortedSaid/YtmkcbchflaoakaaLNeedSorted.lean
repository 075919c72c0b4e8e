/- 'gunwale/gunwalelaw09.NeedSorted': for every input the call returns true, and each argument reads afterwards as it read before. Its one condition is what the given row asks of an input. -/
import Derived.Test.YtmkcbchflaoakaaRows
import Derived.Test.YtmkcbchflaoakaaXB17
import Derived.Test.YtmkcbchflaoakaaXB10
namespace Go.Proofs.Ytmkcbchflaoakaa.needSorted
open Go.ChangeShapes Go.WideShapes Go.ChangeAt Go.RowKit Go.Eng
set_option linter.unusedVariables false
theorem own : ownKnob Try.prog.godebug = none := by kernel_rfl
theorem laidOut : laidOutB Try.prog = true := by kernel_rfl
def tys : List Ty := [(.sl (.cons (.int .i64) (.cons (.int .i64) (.cons .bool (.cons (.int .u64) (.cons (.sl (.int .u8)) (.cons (.sl (.int .u8)) .nil)))))))]
set_option maxRecDepth 100000 in
theorem parts : ∀ {t0 : Ty} {avs : List AV}, j9_ [t0] avs → ∃ y0 : t0.den, avs = [XV_ t0 y0]
  | _, [_], ⟨⟨y0, rfl⟩, trivial⟩ => ⟨y0, rfl⟩
theorem said : ∀ avs, j9_ tys avs → QX_ avs [] = some (True, .bool true) := fun avs h => by
  obtain ⟨y0, rfl⟩ := parts h
  kernel_rfl
set_option maxRecDepth 100000 in
theorem lifted (os : Os) (started : os.Started) (H : Type) (enc : TypeId × Value → H) :
    ReturnsInHanded {} Try.checked os 4 .any (Rows.needSortedSpec.pre6 enc Try.prog Try.f4 Rows.needSortedRow.domain false) (Rows.needSortedSpec.post enc Try.prog Try.f4 false true false false) := by
  refine returnsInHanded_of_change (C := Try.checked) own started (by kernel_rfl) Try.func4
    (ChangeSpec.witness6 (enc := enc) (C := Try.checked) false ⟨#[], #[.slice none 0 0], []⟩ 8 (by kernel_rfl) (by kernel_rfl) (by kernel_rfl) (by kernel_rfl)) ?_
  intro W base args ds gs before hval0 hW hcnd _
  have hval : ∀ (j : Nat) t v, Try.f4.params[j]? = some t → args[j]? = some v → Value.okWide Try.prog W .any base t v := hval0
  have hW' := hW
  obtain ⟨p, q, hA0, hV, rfl, hfz, hnd⟩ := hW
  have hA : DataW.TrodAll enc Try.prog W 0 (fun _ => true) true Try.f4.params.toList args.toList ds p := hA0
  obtain ⟨avs, hR, hO⟩ := Jj_ (tys := tys) (by kernel_rfl) (fun j t v h h' => hval j t v (by rw [← Array.getElem?_toList]; exact h) (by rw [← Array.getElem?_toList]; exact h')) hA
  obtain ⟨d0, rfl⟩ := B9_ (Ko_ hA)
  obtain ⟨rfl, rfl⟩ := trodVars_none hV
  refine (Wg_ JH_ hR (said avs hO)).mono fun e W' ⟨he, bel⟩ => ?_
  subst he
  exact ⟨_, rfl, _, _, _, [], _, [], hW', trodAll_mk1 (shut_bool Try.underlying4 _), jv_ laidOut bel (by kernel_rfl) hA, rfl, bel.frame _, fun h => by cases h⟩

theorem over : Rows.needSortedRow.holds Try.pinned (OpenSpec.ofChange Rows.needSortedSpec) :=
  OpenClaim.holds_of_wide 4 Try.f4 rfl rfl rfl rfl rfl rfl rfl ⟨rfl, rfl, rfl, rfl, rfl⟩ rfl rfl rfl rfl rfl (by kernel_rfl) Try.func4 (by kernel_rfl)
    (of_decide_eq_true (by kernel_rfl)) (by unfold Func.isWrapper; first | (rw [if_pos (by decide +kernel)]; kernel_rfl) | (rw [if_neg (by decide +kernel)]; exact ⟨rfl, rfl⟩))
    (fun os started H enc _ => lifted os started H enc)
theorem proved : Rows.NeedSortedSaid := over
#print axioms proved
end Go.Proofs.Ytmkcbchflaoakaa.needSorted
