/- 'gunwale/gunwalelaw14.ActsetTwice': for every input the call returns true, and each argument reads afterwards as it read before; the listed variables tied to the program's text. -/
import Derived.Test.YtheklpaoigbdnaaDoorRows
import Derived.Test.YtheklpaoigbdnaaDoorTie
import Derived.Test.YtheklpaoigbdnaaDoorCards
import Derived.Test.YtheklpaoigbdnaaDoorXG15
import Derived.Test.YtheklpaoigbdnaaDoorXG11
import Derived.LaidMore
import Derived.Lay
import Derived.Stop.Joined
import Derived.SevenTiedAt
namespace Go.Proofs.YtheklpaoigbdnaaDoor.actsetTwice
open Go Go.ChangeShapes Go.WideShapes Go.ChangeAt Go.RowKit Go.Eng
set_option linter.unusedVariables false
theorem own : ownKnob Tryd.prog.godebug = none := by kernel_rfl
theorem laidOut : laidOutB Tryd.prog = true := by kernel_rfl
def tys : List Ty := [(.sl (.cons (.int .i64) (.cons (.int .u64) (.cons (.int .u64) (.cons (.cons (.int .i64) (.cons (.int .i64) (.cons .bool (.cons (.int .u64) (.cons (.sl (.int .u8)) (.cons (.sl (.int .u8)) .nil)))))) (.cons (.sl (.int .u8)) .nil)))))), (.sl (.cons (.int .i64) (.cons (.int .u64) (.cons (.int .u64) (.cons (.cons (.int .i64) (.cons (.int .i64) (.cons .bool (.cons (.int .u64) (.cons (.sl (.int .u8)) (.cons (.sl (.int .u8)) .nil)))))) (.cons (.sl (.int .u8)) .nil))))))]
set_option maxRecDepth 100000 in
theorem parts : ∀ {t0 t1 : Ty} {avs : List AV}, xl_ [t0, t1] avs → ∃ y0 : t0.den, ∃ y1 : t1.den, avs = [KI_ t0 y0, KI_ t1 y1]
  | _, _, [_, _], ⟨⟨y0, rfl⟩, ⟨y1, rfl⟩, trivial⟩ => ⟨y0, y1, rfl⟩
theorem said : ∀ avs, xl_ tys avs → qg_ avs [] = some (True, .bool true) := fun avs h => by
  obtain ⟨y0, y1, rfl⟩ := parts h
  kernel_rfl
set_option maxRecDepth 100000 in
theorem lifted (os : Os) (started : os.Started) (H : Type) (enc : TypeId × Value → H) :
    ReturnsInHanded {} Tryd.checked os 3 .any (fun w args => (Rows.actsetTwiceSpec.pre enc Tryd.prog Tryd.f3 Rows.actsetTwiceRow.domain false w args ∧ laidMetH Tryd.prog Rows.actsetTwiceRow.laid w) ∧ sizedMet enc Tryd.prog Tryd.f3 (OpenSpec.ofChange Rows.actsetTwiceSpec) false w args)
      (Rows.actsetTwiceSpec.post enc Tryd.prog Tryd.f3 false true false false) := by
  refine returnsInHanded_of_change_and (C := Tryd.checked) (X := fun w _ => laidMetH Tryd.prog Rows.actsetTwiceRow.laid w) (fun _ _ _ hh h => h.of_heap hh) own started (by kernel_rfl) Tryd.func3
    (ChangeSpec.witness_shaped (enc := enc) (C := Tryd.checked) (os := os) (X := fun w _ => laidMetH Tryd.prog Rows.actsetTwiceRow.laid w) false (World.laidAll Tryd.prog os Rows.actsetTwiceRow.laid) #[.slice none 0 0, .slice none 0 0] 8 (World.laidAll_os _ _ _)
      (World.shaped_of_ZipB (by kernel_rfl) (by kernel_rfl)) (by kernel_rfl) (by kernel_rfl) (by kernel_rfl)
      (by rw [MakeChecks.laidMetH_plain _ _ _ (by kernel_rfl)]; exact laidMet_laidAll _ (by kernel_rfl) (by kernel_rfl))) ?_
  intro W base args ds gs before hval0 hW hc _ hL _
  have hval : ∀ (j : Nat) t v, Tryd.f3.params[j]? = some t → args[j]? = some v → Value.okWide Tryd.prog W .any base t v := hval0
  have hW' := hW
  obtain ⟨p, q, hA0, hV, rfl, hfz, hnd⟩ := hW
  have hA : DataW.TrodAll enc Tryd.prog W 0 (fun _ => true) true Tryd.f3.params.toList args.toList ds p := hA0
  obtain ⟨avs, hR, hO⟩ := JG_ (tys := tys) (by kernel_rfl) (fun j t v h h' => hval j t v (by rw [← Array.getElem?_toList]; exact h) (by rw [← Array.getElem?_toList]; exact h')) hA
  obtain ⟨d0, d1, rfl⟩ := hN_ (kM_ hA)
  obtain ⟨rfl, rfl⟩ := trodVars_none hV
  refine (ur_ Ky_ hR (said avs hO)).mono fun e W' ⟨he, bel⟩ => ?_
  subst he
  exact ⟨_, rfl, _, _, _, [], _, [], hW', trodAll_mk1 (shut_bool Tryd.underlying4 _), jb_ laidOut bel (by kernel_rfl) hA, rfl, bel.frame _, fun h => by cases h⟩
theorem bt {a b : Bool} (h : a = true) (k : b = true) : (a && b) = true := by rw [h, k]; rfl
theorem q1 : laidOutB Tryd.pinned.checked.prog = true := by kernel_rfl
theorem q2 : mapsRowed Tryd.pinned.checked.prog = true := by kernel_rfl
theorem q24 : Program.stopsHeard Tryd.pinned.checked.prog = true := by kernel_rfl
theorem q25 : Program.mayEnter Tryd.pinned.checked.prog = true := by kernel_rfl
theorem q26 : (Rows.actsetTwiceRow.lifted == Program.liftsFinal Tryd.pinned.checked.prog) = true := by kernel_rfl
theorem q27 : (Program.make Tryd.pinned.checked.prog == some Rows.actsetTwiceRow.make) = true := by kernel_rfl
theorem closed : joinedFacts Tryd.pinned.checked.prog 3 Tryd.f3 Rows.actsetTwiceSpec Rows.actsetTwiceRow = true := by
  unfold joinedFacts
  exact bt (bt (bt (bt (bt (bt (bt (bt (bt (bt (bt (bt (bt (bt (bt (bt (bt (bt (bt (bt (bt (bt (bt (bt (bt (bt (bt (bt (bt (bt (bt ((by kernel_rfl)) q1) q2) (by kernel_rfl)) (by kernel_rfl)) (by kernel_rfl)) (by kernel_rfl)) (by kernel_rfl)) (by kernel_rfl)) (by kernel_rfl)) (by kernel_rfl)) (by kernel_rfl)) (by kernel_rfl)) (by kernel_rfl)) (by kernel_rfl)) (by kernel_rfl)) (by kernel_rfl)) (by kernel_rfl)) (by kernel_rfl)) (by kernel_rfl)) (by kernel_rfl)) (by kernel_rfl)) (by kernel_rfl)) (by kernel_rfl)) q24) q25) q26) q27) (by kernel_rfl)) (by kernel_rfl)) (by kernel_rfl)) (by kernel_rfl)
theorem over : Rows.ActsetTwiceSaid :=
  OpenClaim.holds_of_wide 3 Tryd.f3 rfl rfl rfl rfl rfl rfl rfl ⟨rfl, rfl, rfl, rfl, rfl⟩ rfl rfl rfl rfl rfl (by kernel_rfl) Tryd.func3 closed
    (of_decide_eq_true (by kernel_rfl)) (by unfold Func.isWrapper; first | (rw [if_pos (by decide +kernel)]; kernel_rfl) | (rw [if_neg (by decide +kernel)]; exact ⟨rfl, rfl⟩))
    (fun os started H enc _ => lifted os started H enc)
theorem p1 : OpenClaim.wfByText (OpenSpec.ofChange Rows.actsetTwiceSpec) Rows.actsetTwiceRow = true := by kernel_rfl
theorem p2 : Tryd.pinned.checked.prog.mainIs = some (true, "fb2e118e6b62ef09e1fc2627d244a7d781485f52585e91d64384c592a5cc4f94".toList) := by kernel_rfl
theorem p3 : false = Program.looks Tryd.pinned.checked.prog [] := by kernel_rfl
theorem p4 : false = OpenClaim.goesBy Rows.actsetTwiceRow Tryd.pinned.checked.prog := by kernel_rfl
theorem proved : Rows.ActsetTwiceCardSaid :=
  Claim7.holds_tied_plain_at .later [] [.data, .pinned] true (true, "fb2e118e6b62ef09e1fc2627d244a7d781485f52585e91d64384c592a5cc4f94") false over (fun _ h => by cases h) p1 (fun _ h => by cases h) actsetTwice_row_tie rfl ⟨rfl, rfl⟩ p2 rfl
    (fun f fn hf hfn => by
      obtain rfl : f = 3 := Option.some.inj ((show Tryd.prog.funcNamed "gunwale/gunwalelaw14.ActsetTwice" = some 3 by kernel_rfl).symm.trans hf) |>.symm
      obtain rfl : fn = Tryd.f3 := (Option.some.inj (Tryd.func3.symm.trans hfn)).symm
      exact ⟨p3, fun j t ht => by
        rw [Tryd.params3] at ht
        have hm : t ∈ [22, 22] := by simpa using Array.mem_of_getElem? ht
        have hall : ([22, 22].all fun u => !Tryd.prog.wantsStandIn u) = true := by kernel_rfl
        exact (show Tryd.prog.wantsStandIn t = false by simpa using List.all_eq_true.1 hall t hm)⟩)
    p4
#print axioms proved
end Go.Proofs.YtheklpaoigbdnaaDoor.actsetTwice
