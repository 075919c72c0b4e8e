/- 'gunwale/gunwalelaw10.MatchFront': for every input the call returns true, and each argument reads afterwards as it read before; the listed variables tied to the program's text. -/
import Derived.Test.YtmbcgankddgpjaaDoorRows
import Derived.Test.YtmbcgankddgpjaaDoorTie
import Derived.Test.YtmbcgankddgpjaaDoorCards
import Derived.Test.YtmbcgankddgpjaaDoorMB
import Derived.Test.YtmbcgankddgpjaaDoorEArg
import Derived.LaidMore
import Derived.Lay
import Derived.Stop.Joined
import Derived.SevenTiedAt
namespace Go.Proofs.YtmbcgankddgpjaaDoor.matchFront
open Go Go.ChangeShapes Go.WideShapes Go.ChangeAt Go.RowKit Go.Eng
set_option linter.unusedVariables false
theorem own : ownKnob Tryd.prog.godebug = none := by kernel_rfl
theorem laidOut : laidOutB Tryd.prog = true := by kernel_rfl
def tys : List Ty := [(.sl (.cons (.int .i64) (.cons (.int .i64) (.cons .bool (.cons (.int .u64) (.cons (.sl (.int .u8)) (.cons (.sl (.int .u8)) .nil))))))), (.int .u8)]
set_option maxRecDepth 100000 in
theorem parts : ∀ {t0 t1 : Ty} {avs : List AV}, ArgsOf [t0, t1] avs → ∃ y0 : t0.den, ∃ y1 : t1.den, avs = [argOf t0 y0, argOf t1 y1]
  | _, _, [_, _], ⟨⟨y0, rfl⟩, ⟨y1, rfl⟩, trivial⟩ => ⟨y0, y1, rfl⟩
theorem said : ∀ avs, ArgsOf tys avs → S_l10_MatchFront avs [] = some (True, .bool true) := fun avs h => by
  obtain ⟨y0, y1, rfl⟩ := parts h
  kernel_rfl
set_option maxRecDepth 100000 in
theorem lifted (os : Os) (started : os.Started) (H : Type) (enc : TypeId × Value → H) :
    ReturnsInHanded {} Tryd.checked os 6 .any (fun w args => (Rows.matchFrontSpec.pre enc Tryd.prog Tryd.f6 Rows.matchFrontRow.domain false w args ∧ laidMetH Tryd.prog Rows.matchFrontRow.laid w) ∧ sizedMet enc Tryd.prog Tryd.f6 (OpenSpec.ofChange Rows.matchFrontSpec) false w args)
      (Rows.matchFrontSpec.post enc Tryd.prog Tryd.f6 false true false false) := by
  refine returnsInHanded_of_change_and (C := Tryd.checked) (X := fun w _ => laidMetH Tryd.prog Rows.matchFrontRow.laid w) (fun _ _ _ hh h => h.of_heap hh) own started (by kernel_rfl) Tryd.func6
    (ChangeSpec.witness_shaped (enc := enc) (C := Tryd.checked) (os := os) (X := fun w _ => laidMetH Tryd.prog Rows.matchFrontRow.laid w) false (World.laidAll Tryd.prog os Rows.matchFrontRow.laid) #[.slice none 0 0, .int .u8 0] 8 (World.laidAll_os _ _ _)
      (World.shaped_of_ZipB (by kernel_rfl) (by kernel_rfl)) (by kernel_rfl) (by kernel_rfl) (by kernel_rfl)
      (by rw [MakeChecks.laidMetH_plain _ _ _ (by kernel_rfl)]; exact laidMet_laidAll _ (by kernel_rfl) (by kernel_rfl))) ?_
  intro W base args ds gs before hval0 hW hc _ hL _
  have hval : ∀ (j : Nat) t v, Tryd.f6.params[j]? = some t → args[j]? = some v → Value.okWide Tryd.prog W .any base t v := hval0
  have hW' := hW
  obtain ⟨p, q, hA0, hV, rfl, hfz, hnd⟩ := hW
  have hA : DataW.TrodAll enc Tryd.prog W 0 (fun _ => true) true Tryd.f6.params.toList args.toList ds p := hA0
  obtain ⟨avs, hR, hO⟩ := args_open (tys := tys) (by kernel_rfl) (fun j t v h h' => hval j t v (by rw [← Array.getElem?_toList]; exact h) (by rw [← Array.getElem?_toList]; exact h')) hA
  obtain ⟨d0, d1, rfl⟩ := len2 (trodAll_len hA)
  obtain ⟨rfl, rfl⟩ := trodVars_none hV
  refine (law_of_ro snd_l10_MatchFront hR (said avs hO)).mono fun e W' ⟨he, bel⟩ => ?_
  subst he
  exact ⟨_, rfl, _, _, _, [], _, [], hW', trodAll_mk1 (shut_bool Tryd.underlying4 _), args_again laidOut bel (by kernel_rfl) hA, rfl, bel.frame _, fun h => by cases h⟩
theorem over : Rows.MatchFrontSaid :=
  OpenClaim.holds_of_wide 6 Tryd.f6 rfl rfl rfl rfl rfl rfl rfl ⟨rfl, rfl, rfl, rfl, rfl⟩ rfl rfl rfl rfl rfl (by kernel_rfl) Tryd.func6 (by kernel_rfl)
    (of_decide_eq_true (by kernel_rfl)) (by unfold Func.isWrapper; first | (rw [if_pos (by decide +kernel)]; kernel_rfl) | (rw [if_neg (by decide +kernel)]; exact ⟨rfl, rfl⟩))
    (fun os started H enc _ => lifted os started H enc)
theorem proved : Rows.MatchFrontCardSaid :=
  Claim7.holds_tied_plain_at .later [] [.data, .pinned] true (true, "d9bbf3308209595788bddc45c3d144a78ce5a11f3fe821e01bcb61e1a6883e2d") false over (fun _ h => by cases h) (by kernel_rfl) (fun _ h => by cases h) matchFront_row_tie rfl ⟨rfl, rfl⟩ (by kernel_rfl) rfl
    (fun f fn hf hfn => by
      obtain rfl : f = 6 := Option.some.inj ((show Tryd.prog.funcNamed "gunwale/gunwalelaw10.MatchFront" = some 6 by kernel_rfl).symm.trans hf) |>.symm
      obtain rfl : fn = Tryd.f6 := (Option.some.inj (Tryd.func6.symm.trans hfn)).symm
      exact ⟨by kernel_rfl, fun j t ht => by
        rw [Tryd.params6] at ht
        have hm : t ∈ [38, 5] := by simpa using Array.mem_of_getElem? ht
        have hall : ([38, 5].all fun u => !Tryd.prog.wantsStandIn u) = true := by kernel_rfl
        exact (show Tryd.prog.wantsStandIn t = false by simpa using List.all_eq_true.1 hall t hm)⟩)
    (by kernel_rfl)
#print axioms proved
end Go.Proofs.YtmbcgankddgpjaaDoor.matchFront
