/- 'gunwale/gunwalelaw09.NeedChain': for every input the call returns true, and each argument reads afterwards as it read before. Its one condition is what the given row asks of an input. -/
import Derived.Test.YtmkcbchflaoakaaRows
import Derived.Test.YtmkcbchflaoakaaXB17
import Derived.Test.YtmkcbchflaoakaaXB10
namespace Go.Proofs.Ytmkcbchflaoakaa.needChain
open Go.ChangeShapes Go.WideShapes Go.ChangeAt Go.RowKit Go.Eng
set_option linter.unusedVariables false
theorem own : ownKnob Try.prog.godebug = none := by kernel_rfl
theorem laidOut : laidOutB Try.prog = true := by kernel_rfl
def tys : List Ty := [(.int .i64), (.int .u8)]
set_option maxRecDepth 100000 in
theorem parts : ∀ {t0 t1 : Ty} {avs : List AV}, j9_ [t0, t1] avs → ∃ y0 : t0.den, ∃ y1 : t1.den, avs = [XV_ t0 y0, XV_ t1 y1]
  | _, _, [_, _], ⟨⟨y0, rfl⟩, ⟨y1, rfl⟩, trivial⟩ => ⟨y0, y1, rfl⟩
theorem said : ∀ avs, j9_ tys avs → kC_ avs [] = some (True, .bool true) := fun avs h => by
  obtain ⟨y0, y1, rfl⟩ := parts h
  kernel_rfl
set_option maxRecDepth 100000 in
theorem lifted (os : Os) (started : os.Started) (H : Type) (enc : TypeId × Value → H) :
    ReturnsInHanded {} Try.checked os 5 .any (Rows.needChainSpec.pre6 enc Try.prog Try.f5 Rows.needChainRow.domain false) (Rows.needChainSpec.post enc Try.prog Try.f5 false true false false) := by
  refine returnsInHanded_of_change (C := Try.checked) own started (by kernel_rfl) Try.func5
    (ChangeSpec.witness6 (enc := enc) (C := Try.checked) false ⟨#[], #[.int .i64 0, .int .u8 0], []⟩ 8 (by kernel_rfl) (by kernel_rfl) (by kernel_rfl) (by kernel_rfl)) ?_
  intro W base args ds gs before hval0 hW hcnd _
  have hval : ∀ (j : Nat) t v, Try.f5.params[j]? = some t → args[j]? = some v → Value.okWide Try.prog W .any base t v := hval0
  have hW' := hW
  obtain ⟨p, q, hA0, hV, rfl, hfz, hnd⟩ := hW
  have hA : DataW.TrodAll enc Try.prog W 0 (fun _ => true) true Try.f5.params.toList args.toList ds p := hA0
  obtain ⟨avs, hR, hO⟩ := Jj_ (tys := tys) (by kernel_rfl) (fun j t v h h' => hval j t v (by rw [← Array.getElem?_toList]; exact h) (by rw [← Array.getElem?_toList]; exact h')) hA
  obtain ⟨d0, d1, rfl⟩ := BL_ (Ko_ hA)
  obtain ⟨rfl, rfl⟩ := trodVars_none hV
  refine (Wg_ wd_ hR (said avs hO)).mono fun e W' ⟨he, bel⟩ => ?_
  subst he
  exact ⟨_, rfl, _, _, _, [], _, [], hW', trodAll_mk1 (shut_bool Try.underlying4 _), jv_ laidOut bel (by kernel_rfl) hA, rfl, bel.frame _, fun h => by cases h⟩

theorem over : Rows.needChainRow.holds Try.pinned (OpenSpec.ofChange Rows.needChainSpec) :=
  OpenClaim.holds_of_wide 5 Try.f5 rfl rfl rfl rfl rfl rfl rfl ⟨rfl, rfl, rfl, rfl, rfl⟩ rfl rfl rfl rfl rfl (by kernel_rfl) Try.func5 (by kernel_rfl)
    (of_decide_eq_true (by kernel_rfl)) (by unfold Func.isWrapper; first | (rw [if_pos (by decide +kernel)]; kernel_rfl) | (rw [if_neg (by decide +kernel)]; exact ⟨rfl, rfl⟩))
    (fun os started H enc _ => lifted os started H enc)
theorem proved : Rows.NeedChainSaid := over
#print axioms proved
end Go.Proofs.Ytmkcbchflaoakaa.needChain
