/- Contracts of functions of the given program, told by plain Lean functions. No condition. -/
import Derived.Test.YtmbcgankddgpjaaDoorProg
import Derived.Test.YtmbcgankddgpjaaDoorEArg
import Derived.KernelRfl
import Derived.Test.YtmbcgankddgpjaaDoorO2
namespace Go.Eng
open Go.Proofs
set_option linter.unusedVariables false
set_option linter.unusedSimpArgs false
set_option maxRecDepth 100000
set_option maxHeartbeats 1000000
theorem ref_fit {f : Int} {v : List Int} (h : refFitsF f v = true) : (v.length : Int) = sizeR f ∧ 0 ≤ bitsR f ∧ bitsR f ≤ 8 * sizeR f ∧ sizeR f ≤ 16 := by
  unfold refFitsF at h
  split at h
  · rename_i hh
    have hn := fIs_t.1 hh.1
    have := tab_le f.toNat (by omega)
    rw [Int.toNat_of_nonneg hn.1] at this
    omega
  · cases h
def refW (c f : Int) (h : Bool) (v m : List Int) : Int :=
  if c = 32768 ∧ refFitsF f v = false then 1032 else if h = true ∧ c = 32768 ∧ refFitsF f m = false then 1033
  else if h = true ∧ (zeroL m = true ∨ refO m (if c = 32768 then bitsR f else 8 * m.length).toNat 0 = true) then 1033 else if h = true ∧ inA v m = false then 1030 else 0
def refR (c f : Int) (h : Bool) (x : Int) (v m : List Int) : Bool :=
  if (h = false ∧ 0 < m.length) ∨ (h = true ∧ ¬ (m.length : Int) = v.length) then false
  else if c = 32768 then fIs f && decide (x = 0) && (!h || maskR f) && decide (refW c f h v m = 0)
  else decide (c = 65535) && decide (0 ≤ f) && decide (f ≤ 127) && decide (x < 4294967296) && decide ((v.length : Int) ≤ 100) && decide (refW c f h v m = 0)
def bodyR (c x : Int) (v m : List Int) : List Int := (if c = 65535 then bytesN x 4 else []) ++ v ++ m
def refB (c f : Int) (h : Bool) (x : Int) (v m : List Int) : List Int := bytesN c 2 ++ [2 * f + if h = true then 1 else 0, ((bodyR c x v m).length : Int)] ++ bodyR c x v m
end Go.Eng
