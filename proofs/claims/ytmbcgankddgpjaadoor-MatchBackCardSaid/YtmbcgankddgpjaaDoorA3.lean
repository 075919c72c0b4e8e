/- Contracts of functions of the given program, told by plain Lean functions. No condition. -/
import Derived.Test.YtmbcgankddgpjaaDoorProg
import Derived.Test.YtmbcgankddgpjaaDoorEArg
import Derived.KernelRfl
import Derived.Test.YtmbcgankddgpjaaDoorA2
namespace Go.Eng
open Go.Proofs
set_option linter.unusedVariables false
set_option linter.unusedSimpArgs false
set_option maxRecDepth 100000
set_option maxHeartbeats 1000000
def nlW0 (a b : AV) : Prop := a = b ∨ (a = .nils ∧ ∃ t, b = .imm t [])
def nlWL : List AV → List AV → Prop
  | [], [] => True
  | a :: l, b :: r => nlW0 a b ∧ nlWL l r
  | _, _ => False
def nlW1 (a b : AV) : Prop := nlW0 a b ∨ ∃ l r, a = .agg l ∧ b = .agg r ∧ nlWL l r
def nlWL1 : List AV → List AV → Prop
  | [], [] => True
  | a :: l, b :: r => nlW1 a b ∧ nlWL1 l r
  | _, _ => False
section
variable {I : Nat → Prop} {w : World} {mm : M}
theorem RV0_nl {a b : AV} {v : Value} (h : nlW0 a b) (hv : RV0 I w mm a v) : RV0 I w mm b v := by
  rcases h with rfl | ⟨rfl, t, rfl⟩
  · exact hv
  · have e : v = .slice none 0 0 := hv
    subst e
    exact ⟨none, 0, 0, rfl, rfl, Nat.le_refl _, Nat.zero_le _, fun h => absurd h (by omega)⟩
theorem RVL0_nl : ∀ (l r : List AV) (vs : List Value), nlWL l r → RVL0 I w mm l vs → RVL0 I w mm r vs
  | [], [], _, _, h => h
  | a :: l, b :: r, v :: vs, h, hv => ⟨RV0_nl h.1 hv.1, RVL0_nl l r vs h.2 hv.2⟩
  | a :: l, b :: r, [], h, hv => hv.elim
  | [], _ :: _, _, h, _ => h.elim
  | _ :: _, [], _, h, _ => h.elim
theorem RV1_nl {a b : AV} {v : Value} (h : nlW1 a b) (hv : RV1 I w mm a v) : RV1 I w mm b v := by
  rcases h with h | ⟨l, r, rfl, rfl, h⟩
  · rcases h with rfl | ⟨rfl, t, rfl⟩
    · exact hv
    · exact RV1_of (RV0_nl (.inr ⟨rfl, t, rfl⟩) hv)
  · obtain ⟨cs, rfl, hv⟩ := hv
    exact ⟨cs, rfl, RVL0_nl _ _ _ h hv⟩
theorem RVL1_nl : ∀ (l r : List AV) (vs : List Value), nlWL1 l r → RVL1 I w mm l vs → RVL1 I w mm r vs
  | [], [], _, _, h => h
  | a :: l, b :: r, v :: vs, h, hv => ⟨RV1_nl h.1 hv.1, RVL1_nl l r vs h.2 hv.2⟩
  | a :: l, b :: r, [], h, hv => hv.elim
  | [], _ :: _, _, h, _ => h.elim
  | _ :: _, [], _, h, _ => h.elim
end
/-- A nil slice in a result may be told as data of no element. -/
theorem ro_weak {P : Program} {id : FuncId} {f : List AV → List Obj → Option (Prop × Res)} {g : List AV → List Obj → Option (Prop × AV)} (hs : SoundS P id (RcF f).sum)
    (h : ∀ args objs p v, g args objs = some (p, v) → ∃ r l l', f args objs = some (p, r) ∧ r.pick = (.tup l, objs) ∧ v = .tup l' ∧ nlWL1 l l') : SoundS P id (RoF g).sum := by
  rw [rc_sum] at hs
  refine ⟨hs.1, ro_det g, fun {I w m args cargs objs K} hH hA hu hS => ?_⟩
  simp only [RoF, SumK.sum] at hS
  split at hS
  · rename_i p v e
    obtain ⟨hp, hk⟩ := need_both hS
    obtain ⟨r, l, l', hf, h2, rfl, h4⟩ := h args objs p v e
    have hS' : (RwF (pkF f)).sum args objs fun v o => v = .tup l ∧ o = objs := by
      unfold RwF SumK.sum pkF; simp only; rw [hf]; simp only; rw [h2]; exact need_of hp fun _ => ⟨rfl, rfl⟩
    refine (hs.2.2 hH hA hu hS').mono ?_
    rintro e w' ⟨v', cv, objs', I', m', rfl, ⟨rfl, rfl⟩, hL⟩
    obtain ⟨cs, rfl, hv⟩ := hL.rv
    exact ⟨.tup l', _, _, I', m', rfl, hk, ⟨⟨cs, rfl, RVL1_nl _ _ _ h4 hv⟩, hL.H, hL.E, hL.used, hL.len, hL.fr, hL.new, hL.own⟩⟩
  · exact hS.elim
end Go.Eng
