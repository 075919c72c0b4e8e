/- Contracts of functions of the given program, told by plain Lean functions. No condition. -/
import Derived.Test.YtgljcfbcdniffaaDoorProg
import Derived.Test.YtgljcfbcdniffaaDoorESum
import Derived.KernelRfl
import Derived.Test.YtgljcfbcdniffaaDoorO2
namespace Go.Eng
open Go.Proofs
set_option linter.unusedVariables false
set_option linter.unusedSimpArgs false
set_option maxRecDepth 100000
set_option maxHeartbeats 1000000
def inA : List Int → List Int → Bool
  | x :: r, y :: l => if bitop .and .u8 x y = x then inA r l else false
  | _, _ => true
def refO (b : List Int) : Nat → Int → Bool
  | 0, _ => true
  | f + 1, i => if bitop .and .u8 ((b.getD (b.length - 1 - i.tdiv 8 : Int).toNat 0).fdiv (2 ^ (min (i.tmod 8).toNat 8))) 1 = 0 then false else refO b f (i + 1)
theorem refO_f {b : List Int} {f : Nat} {i : Int} (h : bitop .and .u8 ((b.getD (b.length - 1 - i.tdiv 8 : Int).toNat 0).fdiv (2 ^ (min (i.tmod 8).toNat 8))) 1 = 0) : refO b (f + 1) i = false := if_pos h
theorem refO_t {b : List Int} {f : Nat} {i : Int} (h : ¬ bitop .and .u8 ((b.getD (b.length - 1 - i.tdiv 8 : Int).toNat 0).fdiv (2 ^ (min (i.tmod 8).toNat 8))) 1 = 0) : refO b (f + 1) i = refO b f (i + 1) := if_neg h
end Go.Eng
