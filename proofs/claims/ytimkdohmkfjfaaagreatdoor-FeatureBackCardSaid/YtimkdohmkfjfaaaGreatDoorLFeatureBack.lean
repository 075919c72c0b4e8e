/- 'gunwale/gunwalelaw20.FeatureBack': for every input the call returns true, and each argument reads afterwards as it read before; the listed variables tied to the program's text. -/
import Derived.Test.YtimkdohmkfjfaaaGreatDoorRows
import Derived.Test.YtimkdohmkfjfaaaGreatDoorTie
import Derived.Test.YtimkdohmkfjfaaaGreatDoorCards
import Derived.Test.YtimkdohmkfjfaaaGreatDoorXK21
import Derived.Test.YtimkdohmkfjfaaaGreatDoorXK11
import Derived.LaidMore
import Derived.Lay
import Derived.Stop.Joined
import Derived.SevenTiedAt
namespace Go.Proofs.YtimkdohmkfjfaaaGreatDoor.featureBack
open Go Go.ChangeShapes Go.WideShapes Go.ChangeAt Go.RowKit Go.Eng
set_option linter.unusedVariables false
theorem own : ownKnob Tryz.prog.godebug = none := by kernel_rfl
theorem laidOut : laidOutB Tryz.prog = true := by kernel_rfl
def tys : List Ty := [(.sl (.cons (.int .u64) (.cons .str (.cons (.int .u64) (.cons (.int .u64) (.cons (.int .u64) (.cons (.int .u64) (.cons (.sl (.cons (.int .i64) (.cons (.sl (.int .u64)) (.cons (.sl (.int .u8)) .nil)))) .nil)))))))), (.sl (.cons (.int .u64) (.cons .str (.cons (.int .u64) (.cons (.int .u64) (.cons (.int .u64) (.cons (.int .u64) (.cons (.sl (.cons (.int .i64) (.cons (.sl (.int .u64)) (.cons (.sl (.int .u8)) .nil)))) .nil)))))))), (.sl (.int .u8))]
set_option maxRecDepth 100000 in
theorem parts : ∀ {t0 t1 t2 : Ty} {avs : List AV}, ge_ [t0, t1, t2] avs → ∃ y0 : t0.den, ∃ y1 : t1.den, ∃ y2 : t2.den, avs = [GH_ t0 y0, GH_ t1 y1, GH_ t2 y2]
  | _, _, _, [_, _, _], ⟨⟨y0, rfl⟩, ⟨y1, rfl⟩, ⟨y2, rfl⟩, trivial⟩ => ⟨y0, y1, y2, rfl⟩
theorem said : ∀ avs, ge_ tys avs → kk_ avs [] = some (True, .bool true) := fun avs h => by
  obtain ⟨y0, y1, y2, rfl⟩ := parts h
  kernel_rfl
set_option maxRecDepth 100000 in
theorem lifted (os : Os) (started : os.Started) (H : Type) (enc : TypeId × Value → H) :
    ReturnsInHanded {} Tryz.checked os 6 .any (fun w args => (Rows.featureBackSpec.pre enc Tryz.prog Tryz.f6 Rows.featureBackRow.domain false w args ∧ laidMetH Tryz.prog Rows.featureBackRow.laid w) ∧ sizedMet enc Tryz.prog Tryz.f6 (OpenSpec.ofChange Rows.featureBackSpec) false w args)
      (Rows.featureBackSpec.post enc Tryz.prog Tryz.f6 false true false false) := by
  refine returnsInHanded_of_change_and (C := Tryz.checked) (X := fun w _ => laidMetH Tryz.prog Rows.featureBackRow.laid w) (fun _ _ _ hh h => h.of_heap hh) own started (by kernel_rfl) Tryz.func6
    (ChangeSpec.witness_shaped (enc := enc) (C := Tryz.checked) (os := os) (X := fun w _ => laidMetH Tryz.prog Rows.featureBackRow.laid w) false (World.laidAll Tryz.prog os Rows.featureBackRow.laid) #[.slice none 0 0, .slice none 0 0, .slice none 0 0] 8 (World.laidAll_os _ _ _)
      (World.shaped_of_ZipB (by kernel_rfl) (by kernel_rfl)) (by kernel_rfl) (by kernel_rfl) (by kernel_rfl)
      (by rw [MakeChecks.laidMetH_plain _ _ _ (by kernel_rfl)]; exact laidMet_laidAll _ (by kernel_rfl) (by kernel_rfl))) ?_
  intro W base args ds gs before hval0 hW hc _ hL _
  have hval : ∀ (j : Nat) t v, Tryz.f6.params[j]? = some t → args[j]? = some v → Value.okWide Tryz.prog W .any base t v := hval0
  have hW' := hW
  obtain ⟨p, q, hA0, hV, rfl, hfz, hnd⟩ := hW
  have hA : DataW.TrodAll enc Tryz.prog W 0 (fun _ => true) true Tryz.f6.params.toList args.toList ds p := hA0
  obtain ⟨avs, hR, hO⟩ := uS_ (tys := tys) (by kernel_rfl) (fun j t v h h' => hval j t v (by rw [← Array.getElem?_toList]; exact h) (by rw [← Array.getElem?_toList]; exact h')) hA
  obtain ⟨d0, d1, d2, rfl⟩ := len3 (y2_ hA)
  obtain ⟨rfl, rfl⟩ := trodVars_none hV
  refine (bB_ W6_ hR (said avs hO)).mono fun e W' ⟨he, bel⟩ => ?_
  subst he
  exact ⟨_, rfl, _, _, _, [], _, [], hW', trodAll_mk1 (shut_bool Tryz.underlying4 _), Vw_ laidOut bel (by kernel_rfl) hA, rfl, bel.frame _, fun h => by cases h⟩
theorem bt {a b : Bool} (h : a = true) (k : b = true) : (a && b) = true := by rw [h, k]; rfl
theorem q1 : laidOutB Tryz.pinned.checked.prog = true := by kernel_rfl
theorem q2 : mapsRowed Tryz.pinned.checked.prog = true := by kernel_rfl
theorem q24 : Program.stopsHeard Tryz.pinned.checked.prog = true := by kernel_rfl
theorem q25 : Program.mayEnter Tryz.pinned.checked.prog = true := by kernel_rfl
theorem q26 : (Rows.featureBackRow.lifted == Program.liftsFinal Tryz.pinned.checked.prog) = true := by kernel_rfl
theorem q27 : (Program.make Tryz.pinned.checked.prog == some Rows.featureBackRow.make) = true := by kernel_rfl
theorem closed : joinedFacts Tryz.pinned.checked.prog 6 Tryz.f6 Rows.featureBackSpec Rows.featureBackRow = true := by
  unfold joinedFacts
  exact bt (bt (bt (bt (bt (bt (bt (bt (bt (bt (bt (bt (bt (bt (bt (bt (bt (bt (bt (bt (bt (bt (bt (bt (bt (bt (bt (bt (bt (bt (bt ((by kernel_rfl)) q1) q2) (by kernel_rfl)) (by kernel_rfl)) (by kernel_rfl)) (by kernel_rfl)) (by kernel_rfl)) (by kernel_rfl)) (by kernel_rfl)) (by kernel_rfl)) (by kernel_rfl)) (by kernel_rfl)) (by kernel_rfl)) (by kernel_rfl)) (by kernel_rfl)) (by kernel_rfl)) (by kernel_rfl)) (by kernel_rfl)) (by kernel_rfl)) (by kernel_rfl)) (by kernel_rfl)) (by kernel_rfl)) (by kernel_rfl)) q24) q25) q26) q27) (by kernel_rfl)) (by kernel_rfl)) (by kernel_rfl)) (by kernel_rfl)
theorem over : Rows.FeatureBackSaid :=
  OpenClaim.holds_of_wide 6 Tryz.f6 rfl rfl rfl rfl rfl rfl rfl ⟨rfl, rfl, rfl, rfl, rfl⟩ rfl rfl rfl rfl rfl (by kernel_rfl) Tryz.func6 closed
    (of_decide_eq_true (by kernel_rfl)) (by unfold Func.isWrapper; first | (rw [if_pos (by decide +kernel)]; kernel_rfl) | (rw [if_neg (by decide +kernel)]; exact ⟨rfl, rfl⟩))
    (fun os started H enc _ => lifted os started H enc)
theorem p1 : OpenClaim.wfByText (OpenSpec.ofChange Rows.featureBackSpec) Rows.featureBackRow = true := by kernel_rfl
theorem p2 : Tryz.pinned.checked.prog.mainIs = some (true, "cfd99f3f1aefbccf158ba9e11322c48e75ec7254a2be6cbec40ba8034cc42de3".toList) := by kernel_rfl
theorem p3 : false = Program.looks Tryz.pinned.checked.prog [] := by kernel_rfl
theorem p4 : false = OpenClaim.goesBy Rows.featureBackRow Tryz.pinned.checked.prog := by kernel_rfl
theorem proved : Rows.FeatureBackCardSaid :=
  Claim7.holds_tied_plain_at .later [] [.data, .pinned] true (true, "cfd99f3f1aefbccf158ba9e11322c48e75ec7254a2be6cbec40ba8034cc42de3") false over (fun _ h => by cases h) p1 (fun _ h => by cases h) featureBack_row_tie rfl ⟨rfl, rfl⟩ p2 rfl
    (fun f fn hf hfn => by
      obtain rfl : f = 6 := Option.some.inj ((show Tryz.prog.funcNamed "gunwale/gunwalelaw20.FeatureBack" = some 6 by kernel_rfl).symm.trans hf) |>.symm
      obtain rfl : fn = Tryz.f6 := (Option.some.inj (Tryz.func6.symm.trans hfn)).symm
      exact ⟨p3, fun j t ht => by
        rw [Tryz.params6] at ht
        have hm : t ∈ [58, 58, 28] := by simpa using Array.mem_of_getElem? ht
        have hall : ([58, 58, 28].all fun u => !Tryz.prog.wantsStandIn u) = true := by kernel_rfl
        exact (show Tryz.prog.wantsStandIn t = false by simpa using List.all_eq_true.1 hall t hm)⟩)
    p4
#print axioms proved
end Go.Proofs.YtimkdohmkfjfaaaGreatDoor.featureBack
