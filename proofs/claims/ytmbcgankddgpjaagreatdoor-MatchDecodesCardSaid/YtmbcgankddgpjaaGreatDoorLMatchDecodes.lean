/- 'gunwale/gunwalelaw10.MatchDecodes': for every input the call returns true, and each argument reads afterwards as it read before; the listed variables tied to the program's text. -/
import Derived.Test.YtmbcgankddgpjaaGreatDoorRows
import Derived.Test.YtmbcgankddgpjaaGreatDoorTie
import Derived.Test.YtmbcgankddgpjaaGreatDoorCards
import Derived.Test.YtmbcgankddgpjaaGreatDoorMA
import Derived.Test.YtmbcgankddgpjaaGreatDoorEArg
import Derived.LaidMore
import Derived.Lay
import Derived.Stop.Joined
import Derived.SevenTiedAt
namespace Go.Proofs.YtmbcgankddgpjaaGreatDoor.matchDecodes
open Go Go.ChangeShapes Go.WideShapes Go.ChangeAt Go.RowKit Go.Eng
set_option linter.unusedVariables false
theorem own : ownKnob Tryz.prog.godebug = none := by kernel_rfl
theorem laidOut : laidOutB Tryz.prog = true := by kernel_rfl
def tys : List Ty := [(.sl (.int .u8)), (.sl (.int .u8))]
set_option maxRecDepth 100000 in
theorem parts : ∀ {t0 t1 : Ty} {avs : List AV}, ArgsOf [t0, t1] avs → ∃ y0 : t0.den, ∃ y1 : t1.den, avs = [argOf t0 y0, argOf t1 y1]
  | _, _, [_, _], ⟨⟨y0, rfl⟩, ⟨y1, rfl⟩, trivial⟩ => ⟨y0, y1, rfl⟩
theorem said : ∀ avs, ArgsOf tys avs → S_l10_MatchDecodes avs [] = some (True, .bool true) := fun avs h => by
  obtain ⟨y0, y1, rfl⟩ := parts h
  kernel_rfl
set_option maxRecDepth 100000 in
theorem lifted (os : Os) (started : os.Started) (H : Type) (enc : TypeId × Value → H) :
    ReturnsInHanded {} Tryz.checked os 5 .any (fun w args => (Rows.matchDecodesSpec.pre enc Tryz.prog Tryz.f5 Rows.matchDecodesRow.domain false w args ∧ laidMetH Tryz.prog Rows.matchDecodesRow.laid w) ∧ sizedMet enc Tryz.prog Tryz.f5 (OpenSpec.ofChange Rows.matchDecodesSpec) false w args)
      (Rows.matchDecodesSpec.post enc Tryz.prog Tryz.f5 false true false false) := by
  refine returnsInHanded_of_change_and (C := Tryz.checked) (X := fun w _ => laidMetH Tryz.prog Rows.matchDecodesRow.laid w) (fun _ _ _ hh h => h.of_heap hh) own started (by kernel_rfl) Tryz.func5
    (ChangeSpec.witness_shaped (enc := enc) (C := Tryz.checked) (os := os) (X := fun w _ => laidMetH Tryz.prog Rows.matchDecodesRow.laid w) false (World.laidAll Tryz.prog os Rows.matchDecodesRow.laid) #[.slice none 0 0, .slice none 0 0] 8 (World.laidAll_os _ _ _)
      (World.shaped_of_ZipB (by kernel_rfl) (by kernel_rfl)) (by kernel_rfl) (by kernel_rfl) (by kernel_rfl)
      (by rw [MakeChecks.laidMetH_plain _ _ _ (by kernel_rfl)]; exact laidMet_laidAll _ (by kernel_rfl) (by kernel_rfl))) ?_
  intro W base args ds gs before hval0 hW hc _ hL _
  have hval : ∀ (j : Nat) t v, Tryz.f5.params[j]? = some t → args[j]? = some v → Value.okWide Tryz.prog W .any base t v := hval0
  have hW' := hW
  obtain ⟨p, q, hA0, hV, rfl, hfz, hnd⟩ := hW
  have hA : DataW.TrodAll enc Tryz.prog W 0 (fun _ => true) true Tryz.f5.params.toList args.toList ds p := hA0
  obtain ⟨avs, hR, hO⟩ := args_open (tys := tys) (by kernel_rfl) (fun j t v h h' => hval j t v (by rw [← Array.getElem?_toList]; exact h) (by rw [← Array.getElem?_toList]; exact h')) hA
  obtain ⟨d0, d1, rfl⟩ := len2 (trodAll_len hA)
  obtain ⟨rfl, rfl⟩ := trodVars_none hV
  refine (law_of_ro snd_l10_MatchDecodes hR (said avs hO)).mono fun e W' ⟨he, bel⟩ => ?_
  subst he
  exact ⟨_, rfl, _, _, _, [], _, [], hW', trodAll_mk1 (shut_bool Tryz.underlying4 _), args_again laidOut bel (by kernel_rfl) hA, rfl, bel.frame _, fun h => by cases h⟩
theorem over : Rows.MatchDecodesSaid :=
  OpenClaim.holds_of_wide 5 Tryz.f5 rfl rfl rfl rfl rfl rfl rfl ⟨rfl, rfl, rfl, rfl, rfl⟩ rfl rfl rfl rfl rfl (by kernel_rfl) Tryz.func5 (by kernel_rfl)
    (of_decide_eq_true (by kernel_rfl)) (by unfold Func.isWrapper; first | (rw [if_pos (by decide +kernel)]; kernel_rfl) | (rw [if_neg (by decide +kernel)]; exact ⟨rfl, rfl⟩))
    (fun os started H enc _ => lifted os started H enc)
theorem proved : Rows.MatchDecodesCardSaid :=
  Claim7.holds_tied_plain_at .later [] [.data, .pinned] true (true, "9f5634d0b1303afbc77ac5c267b9d07b8db913c80c5ecfbb3ef3c69c21ce9cd7") false over (fun _ h => by cases h) (by kernel_rfl) (fun _ h => by cases h) matchDecodes_row_tie rfl ⟨rfl, rfl⟩ (by kernel_rfl) rfl
    (fun f fn hf hfn => by
      obtain rfl : f = 5 := Option.some.inj ((show Tryz.prog.funcNamed "gunwale/gunwalelaw10.MatchDecodes" = some 5 by kernel_rfl).symm.trans hf) |>.symm
      obtain rfl : fn = Tryz.f5 := (Option.some.inj (Tryz.func5.symm.trans hfn)).symm
      exact ⟨by kernel_rfl, fun j t ht => by
        rw [Tryz.params5] at ht
        have hm : t ∈ [32, 32] := by simpa using Array.mem_of_getElem? ht
        have hall : ([32, 32].all fun u => !Tryz.prog.wantsStandIn u) = true := by kernel_rfl
        exact (show Tryz.prog.wantsStandIn t = false by simpa using List.all_eq_true.1 hall t hm)⟩)
    (by kernel_rfl)
#print axioms proved
end Go.Proofs.YtmbcgankddgpjaaGreatDoor.matchDecodes
