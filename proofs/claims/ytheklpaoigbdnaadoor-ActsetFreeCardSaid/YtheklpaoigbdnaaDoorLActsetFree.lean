/- 'gunwale/gunwalelaw14.ActsetFree': for every input the call returns true, and each argument reads afterwards as it read before; the listed variables tied to the program's text. -/
import Derived.Test.YtheklpaoigbdnaaDoorRows
import Derived.Test.YtheklpaoigbdnaaDoorTie
import Derived.Test.YtheklpaoigbdnaaDoorCards
import Derived.Test.YtheklpaoigbdnaaDoorXG15
import Derived.Test.YtheklpaoigbdnaaDoorXG11
import Derived.LaidMore
import Derived.Lay
import Derived.Stop.Joined
import Derived.SevenTiedAt
namespace Go.Proofs.YtheklpaoigbdnaaDoor.actsetFree
open Go Go.ChangeShapes Go.WideShapes Go.ChangeAt Go.RowKit Go.Eng
set_option linter.unusedVariables false
theorem own : ownKnob Tryd.prog.godebug = none := by kernel_rfl
theorem laidOut : laidOutB Tryd.prog = true := by kernel_rfl
def tys : List Ty := [(.sl (.cons (.int .i64) (.cons (.int .u64) (.cons (.int .u64) (.cons (.cons (.int .i64) (.cons (.int .i64) (.cons .bool (.cons (.int .u64) (.cons (.sl (.int .u8)) (.cons (.sl (.int .u8)) .nil)))))) (.cons (.sl (.int .u8)) .nil)))))), (.cons (.int .i64) (.cons (.int .u64) (.cons (.int .u64) (.cons (.cons (.int .i64) (.cons (.int .i64) (.cons .bool (.cons (.int .u64) (.cons (.sl (.int .u8)) (.cons (.sl (.int .u8)) .nil)))))) (.cons (.sl (.int .u8)) .nil))))), (.cons (.int .i64) (.cons (.int .u64) (.cons (.int .u64) (.cons (.cons (.int .i64) (.cons (.int .i64) (.cons .bool (.cons (.int .u64) (.cons (.sl (.int .u8)) (.cons (.sl (.int .u8)) .nil)))))) (.cons (.sl (.int .u8)) .nil)))))]
set_option maxRecDepth 100000 in
theorem parts : ∀ {t0 t1 t2 : Ty} {avs : List AV}, xl_ [t0, t1, t2] avs → ∃ y0 : t0.den, ∃ y1 : t1.den, ∃ y2 : t2.den, avs = [KI_ t0 y0, KI_ t1 y1, KI_ t2 y2]
  | _, _, _, [_, _, _], ⟨⟨y0, rfl⟩, ⟨y1, rfl⟩, ⟨y2, rfl⟩, trivial⟩ => ⟨y0, y1, y2, rfl⟩
theorem said (y0 : List (Ty.den (.cons (.int .i64) (.cons (.int .u64) (.cons (.int .u64) (.cons (.cons (.int .i64) (.cons (.int .i64) (.cons .bool (.cons (.int .u64) (.cons (.sl (.int .u8)) (.cons (.sl (.int .u8)) .nil)))))) (.cons (.sl (.int .u8)) .nil))))))) (y1 : Ty.den ((.cons (.int .i64) (.cons (.int .u64) (.cons (.int .u64) (.cons (.cons (.int .i64) (.cons (.int .i64) (.cons .bool (.cons (.int .u64) (.cons (.sl (.int .u8)) (.cons (.sl (.int .u8)) .nil)))))) (.cons (.sl (.int .u8)) .nil))))))) (y2 : Ty.den ((.cons (.int .i64) (.cons (.int .u64) (.cons (.int .u64) (.cons (.cons (.int .i64) (.cons (.int .i64) (.cons .bool (.cons (.int .u64) (.cons (.sl (.int .u8)) (.cons (.sl (.int .u8)) .nil)))))) (.cons (.sl (.int .u8)) .nil))))))) : qv_ [KI_ ((.sl (.cons (.int .i64) (.cons (.int .u64) (.cons (.int .u64) (.cons (.cons (.int .i64) (.cons (.int .i64) (.cons .bool (.cons (.int .u64) (.cons (.sl (.int .u8)) (.cons (.sl (.int .u8)) .nil)))))) (.cons (.sl (.int .u8)) .nil))))))) y0, KI_ ((.cons (.int .i64) (.cons (.int .u64) (.cons (.int .u64) (.cons (.cons (.int .i64) (.cons (.int .i64) (.cons .bool (.cons (.int .u64) (.cons (.sl (.int .u8)) (.cons (.sl (.int .u8)) .nil)))))) (.cons (.sl (.int .u8)) .nil)))))) y1, KI_ ((.cons (.int .i64) (.cons (.int .u64) (.cons (.int .u64) (.cons (.cons (.int .i64) (.cons (.int .i64) (.cons .bool (.cons (.int .u64) (.cons (.sl (.int .u8)) (.cons (.sl (.int .u8)) .nil)))))) (.cons (.sl (.int .u8)) .nil)))))) y2] [] = some (List.length y0 ≤ 1099511627774, .bool true) := by kernel_rfl
set_option maxRecDepth 100000 in
theorem lifted (os : Os) (started : os.Started) (H : Type) (enc : TypeId × Value → H) :
    ReturnsInHanded {} Tryd.checked os 4 .any (fun w args => (Rows.actsetFreeSpec.pre enc Tryd.prog Tryd.f4 Rows.actsetFreeRow.domain false w args ∧ laidMetH Tryd.prog Rows.actsetFreeRow.laid w) ∧ sizedMet enc Tryd.prog Tryd.f4 (OpenSpec.ofChange Rows.actsetFreeSpec) false w args)
      (Rows.actsetFreeSpec.post enc Tryd.prog Tryd.f4 false true false false) := by
  refine returnsInHanded_of_change_and (C := Tryd.checked) (X := fun w _ => laidMetH Tryd.prog Rows.actsetFreeRow.laid w) (fun _ _ _ hh h => h.of_heap hh) own started (by kernel_rfl) Tryd.func4
    (ChangeSpec.witness_shaped (enc := enc) (C := Tryd.checked) (os := os) (X := fun w _ => laidMetH Tryd.prog Rows.actsetFreeRow.laid w) false (World.laidAll Tryd.prog os Rows.actsetFreeRow.laid) #[.slice none 0 0, .agg #[(.int .i64 0), (.int .u64 0), (.int .u64 0), (.int .i64 0), (.int .i64 0), (.bool false), (.int .u64 0), (.slice none 0 0), (.slice none 0 0), (.slice none 0 0)], .agg #[(.int .i64 0), (.int .u64 0), (.int .u64 0), (.int .i64 0), (.int .i64 0), (.bool false), (.int .u64 0), (.slice none 0 0), (.slice none 0 0), (.slice none 0 0)]] 8 (World.laidAll_os _ _ _)
      (World.shaped_of_ZipB (by kernel_rfl) (by kernel_rfl)) (by kernel_rfl) (by kernel_rfl) (by kernel_rfl)
      (by rw [MakeChecks.laidMetH_plain _ _ _ (by kernel_rfl)]; exact laidMet_laidAll _ (by kernel_rfl) (by kernel_rfl))) ?_
  intro W base args ds gs before hval0 hW hc hz hL _
  have hval : ∀ (j : Nat) t v, Tryd.f4.params[j]? = some t → args[j]? = some v → Value.okWide Tryd.prog W .any base t v := hval0
  have hW' := hW
  obtain ⟨p, q, hA0, hV, rfl, hfz, hnd⟩ := hW
  have hA : DataW.TrodAll enc Tryd.prog W 0 (fun _ => true) true Tryd.f4.params.toList args.toList ds p := hA0
  obtain ⟨avs, hR, hO⟩ := JG_ (tys := tys) (by kernel_rfl) (fun j t v h h' => hval j t v (by rw [← Array.getElem?_toList]; exact h) (by rw [← Array.getElem?_toList]; exact h')) hA
  obtain ⟨y0, y1, y2, rfl⟩ := parts hO
  have hz1 := uz_ (P := Tryd.prog) (t := 22) (e := 34) (by kernel_rfl) hR hA hz
  have hz2 : List.length y0 ≤ 1099511627774 := by
    rw [show Tryd.prog.bytesOf 34 = 128 by kernel_rfl] at hz1
    have hz3 : List.length y0 * 128 ≤ 0x7ffffffff000 := hz1
    omega
  obtain ⟨d0, d1, d2, rfl⟩ := hM_ (kM_ hA)
  obtain ⟨rfl, rfl⟩ := trodVars_none hV
  refine (uq_ KK_ hR (said y0 y1 y2) hz2).mono fun e W' ⟨he, bel⟩ => ?_
  subst he
  exact ⟨_, rfl, _, _, _, [], _, [], hW', trodAll_mk1 (shut_bool Tryd.underlying4 _), jb_ laidOut bel (by kernel_rfl) hA, rfl, bel.frame _, fun h => by cases h⟩
theorem bt {a b : Bool} (h : a = true) (k : b = true) : (a && b) = true := by rw [h, k]; rfl
theorem q1 : laidOutB Tryd.pinned.checked.prog = true := by kernel_rfl
theorem q2 : mapsRowed Tryd.pinned.checked.prog = true := by kernel_rfl
theorem q24 : Program.stopsHeard Tryd.pinned.checked.prog = true := by kernel_rfl
theorem q25 : Program.mayEnter Tryd.pinned.checked.prog = true := by kernel_rfl
theorem q26 : (Rows.actsetFreeRow.lifted == Program.liftsFinal Tryd.pinned.checked.prog) = true := by kernel_rfl
theorem q27 : (Program.make Tryd.pinned.checked.prog == some Rows.actsetFreeRow.make) = true := by kernel_rfl
theorem closed : joinedFacts Tryd.pinned.checked.prog 4 Tryd.f4 Rows.actsetFreeSpec Rows.actsetFreeRow = true := by
  unfold joinedFacts
  exact bt (bt (bt (bt (bt (bt (bt (bt (bt (bt (bt (bt (bt (bt (bt (bt (bt (bt (bt (bt (bt (bt (bt (bt (bt (bt (bt (bt (bt (bt (bt ((by kernel_rfl)) q1) q2) (by kernel_rfl)) (by kernel_rfl)) (by kernel_rfl)) (by kernel_rfl)) (by kernel_rfl)) (by kernel_rfl)) (by kernel_rfl)) (by kernel_rfl)) (by kernel_rfl)) (by kernel_rfl)) (by kernel_rfl)) (by kernel_rfl)) (by kernel_rfl)) (by kernel_rfl)) (by kernel_rfl)) (by kernel_rfl)) (by kernel_rfl)) (by kernel_rfl)) (by kernel_rfl)) (by kernel_rfl)) (by kernel_rfl)) q24) q25) q26) q27) (by kernel_rfl)) (by kernel_rfl)) (by kernel_rfl)) (by kernel_rfl)
theorem over : Rows.ActsetFreeSaid :=
  OpenClaim.holds_of_wide 4 Tryd.f4 rfl rfl rfl rfl rfl rfl rfl ⟨rfl, rfl, rfl, rfl, rfl⟩ rfl rfl rfl rfl rfl (by kernel_rfl) Tryd.func4 closed
    (of_decide_eq_true (by kernel_rfl)) (by unfold Func.isWrapper; first | (rw [if_pos (by decide +kernel)]; kernel_rfl) | (rw [if_neg (by decide +kernel)]; exact ⟨rfl, rfl⟩))
    (fun os started H enc _ => lifted os started H enc)
theorem p1 : OpenClaim.wfByText (OpenSpec.ofChange Rows.actsetFreeSpec) Rows.actsetFreeRow = true := by kernel_rfl
theorem p2 : Tryd.pinned.checked.prog.mainIs = some (true, "fb2e118e6b62ef09e1fc2627d244a7d781485f52585e91d64384c592a5cc4f94".toList) := by kernel_rfl
theorem p3 : false = Program.looks Tryd.pinned.checked.prog [] := by kernel_rfl
theorem p4 : false = OpenClaim.goesBy Rows.actsetFreeRow Tryd.pinned.checked.prog := by kernel_rfl
theorem proved : Rows.ActsetFreeCardSaid :=
  Claim7.holds_tied_plain_at .later [] [.data, .pinned] true (true, "fb2e118e6b62ef09e1fc2627d244a7d781485f52585e91d64384c592a5cc4f94") false over (fun _ h => by cases h) p1 (fun _ h => by cases h) actsetFree_row_tie rfl ⟨rfl, rfl⟩ p2 rfl
    (fun f fn hf hfn => by
      obtain rfl : f = 4 := Option.some.inj ((show Tryd.prog.funcNamed "gunwale/gunwalelaw14.ActsetFree" = some 4 by kernel_rfl).symm.trans hf) |>.symm
      obtain rfl : fn = Tryd.f4 := (Option.some.inj (Tryd.func4.symm.trans hfn)).symm
      exact ⟨p3, fun j t ht => by
        rw [Tryd.params4] at ht
        have hm : t ∈ [22, 34, 34] := by simpa using Array.mem_of_getElem? ht
        have hall : ([22, 34, 34].all fun u => !Tryd.prog.wantsStandIn u) = true := by kernel_rfl
        exact (show Tryd.prog.wantsStandIn t = false by simpa using List.all_eq_true.1 hall t hm)⟩)
    p4
#print axioms proved
end Go.Proofs.YtheklpaoigbdnaaDoor.actsetFree
