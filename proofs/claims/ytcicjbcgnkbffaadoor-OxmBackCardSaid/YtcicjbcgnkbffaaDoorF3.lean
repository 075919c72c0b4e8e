/- Contracts of functions of the given program, told by plain Lean functions. No condition. -/
import Derived.Test.YtcicjbcgnkbffaaDoorProg
import Derived.Test.YtcicjbcgnkbffaaDoorESum
import Derived.KernelRfl
import Derived.Test.YtcicjbcgnkbffaaDoorF2
namespace Go.Eng
open Go.Proofs
set_option linter.unusedVariables false
set_option linter.unusedSimpArgs false
set_option maxRecDepth 100000
set_option maxHeartbeats 1000000
def idxF : List (List Int) → List Int → Nat → Int
  | [], _, _ => -1
  | a :: r, s, k => if s = a then k else idxF r s (k + 1)
theorem idxF_step {l : List (List Int)} {s : List Int} {i : Nat} (h : i < l.length) : idxF (l.drop i) s i = if s = l.getD i [] then (i : Int) else idxF (l.drop (i + 1)) s (i + 1) := by
  rw [List.drop_eq_getElem_cons h, List.getD_eq_getElem?_getD, List.getElem?_eq_getElem h]
  rfl
theorem idxF_end {l : List (List Int)} {s : List Int} {i : Nat} (h : l.length ≤ i) : idxF (l.drop i) s i = -1 := by
  rw [List.drop_of_length_le h]; rfl
def findN (s : List Int) : Int := if 0 > idxF namesL s 0 then 0 else idxF namesL s 0
def findB (s : List Int) : Bool := decide (0 ≤ idxF namesL s 0)
abbrev fieldT : Ty := (.cons .str (.cons (.int .i64) (.cons (.int .i64) (.cons .bool (.cons (.int .i64) (.cons (.sl (.int .u64)) .nil))))))
def tab : List fieldT.den := [([105, 110, 95, 112, 111, 114, 116], 32, 4, false, -1, [], ()),
  ([105, 110, 95, 112, 104, 121, 95, 112, 111, 114, 116], 32, 4, false, 0, [], ()),
  ([109, 101, 116, 97, 100, 97, 116, 97], 64, 8, true, -1, [], ()),
  ([101, 116, 104, 95, 100, 115, 116], 48, 6, true, -1, [], ()),
  ([101, 116, 104, 95, 115, 114, 99], 48, 6, true, -1, [], ()),
  ([101, 116, 104, 95, 116, 121, 112, 101], 16, 2, false, -1, [], ()),
  ([118, 108, 97, 110, 95, 118, 105, 100], 13, 2, true, -1, [], ()),
  ([118, 108, 97, 110, 95, 112, 99, 112], 3, 1, false, 6, [], ()),
  ([105, 112, 95, 100, 115, 99, 112], 6, 1, false, 5, [2048, 34525], ()),
  ([105, 112, 95, 101, 99, 110], 2, 1, false, 5, [2048, 34525], ()),
  ([105, 112, 95, 112, 114, 111, 116, 111], 8, 1, false, 5, [2048, 34525], ()),
  ([105, 112, 118, 52, 95, 115, 114, 99], 32, 4, true, 5, [2048], ()),
  ([105, 112, 118, 52, 95, 100, 115, 116], 32, 4, true, 5, [2048], ()),
  ([116, 99, 112, 95, 115, 114, 99], 16, 2, false, 10, [6], ()),
  ([116, 99, 112, 95, 100, 115, 116], 16, 2, false, 10, [6], ()),
  ([117, 100, 112, 95, 115, 114, 99], 16, 2, false, 10, [17], ()),
  ([117, 100, 112, 95, 100, 115, 116], 16, 2, false, 10, [17], ()),
  ([115, 99, 116, 112, 95, 115, 114, 99], 16, 2, false, 10, [132], ()),
  ([115, 99, 116, 112, 95, 100, 115, 116], 16, 2, false, 10, [132], ()),
  ([105, 99, 109, 112, 118, 52, 95, 116, 121, 112, 101], 8, 1, false, 10, [1], ()),
  ([105, 99, 109, 112, 118, 52, 95, 99, 111, 100, 101], 8, 1, false, 10, [1], ()),
  ([97, 114, 112, 95, 111, 112], 16, 2, false, 5, [2054], ()),
  ([97, 114, 112, 95, 115, 112, 97], 32, 4, true, 5, [2054], ()),
  ([97, 114, 112, 95, 116, 112, 97], 32, 4, true, 5, [2054], ()),
  ([97, 114, 112, 95, 115, 104, 97], 48, 6, true, 5, [2054], ()),
  ([97, 114, 112, 95, 116, 104, 97], 48, 6, true, 5, [2054], ()),
  ([105, 112, 118, 54, 95, 115, 114, 99], 128, 16, true, 5, [34525], ()),
  ([105, 112, 118, 54, 95, 100, 115, 116], 128, 16, true, 5, [34525], ()),
  ([105, 112, 118, 54, 95, 102, 108, 97, 98, 101, 108], 20, 4, true, 5, [34525], ()),
  ([105, 99, 109, 112, 118, 54, 95, 116, 121, 112, 101], 8, 1, false, 10, [58], ()),
  ([105, 99, 109, 112, 118, 54, 95, 99, 111, 100, 101], 8, 1, false, 10, [58], ()),
  ([105, 112, 118, 54, 95, 110, 100, 95, 116, 97, 114, 103, 101, 116], 128, 16, false, 29, [135, 136], ()),
  ([105, 112, 118, 54, 95, 110, 100, 95, 115, 108, 108], 48, 6, false, 29, [135], ()),
  ([105, 112, 118, 54, 95, 110, 100, 95, 116, 108, 108], 48, 6, false, 29, [136], ()),
  ([109, 112, 108, 115, 95, 108, 97, 98, 101, 108], 20, 4, false, 5, [34887, 34888], ()),
  ([109, 112, 108, 115, 95, 116, 99], 3, 1, false, 5, [34887, 34888], ()),
  ([109, 112, 108, 115, 95, 98, 111, 115], 1, 1, false, 5, [34887, 34888], ()),
  ([112, 98, 98, 95, 105, 115, 105, 100], 24, 3, true, 5, [35047], ()),
  ([116, 117, 110, 110, 101, 108, 95, 105, 100], 64, 8, true, -1, [], ()),
  ([105, 112, 118, 54, 95, 101, 120, 116, 104, 100, 114], 9, 2, true, 5, [34525], ())]
def ir_r07_All : IR :=
 (.seq
  (.reg ((⟨(some 0), .mov (.c (.imm (.cons .str (.cons (.int .i64) (.cons (.int .i64) (.cons .bool (.cons (.int .i64) (.cons (.sl (.int .u64)) .nil)))))) [])), none⟩ : IOper) ::
    []))
  (.seq
   (.reg ((⟨(some 1), .buildAll 6 [(0, 1, (.c (.str [105, 110, 95, 112, 111, 114, 116]))), (1, 1, (.c (.int .i64 32))), (2, 1, (.c (.int .i64 4))), (3, 1, (.c (.kb false))), (4, 1, (.c (.int .i64 (-1)))), (5, 1, (.c (.imm (.int .u64) [])))], none⟩ : IOper) ::
     (⟨(some 2), .buildAll 6 [(0, 1, (.c (.str [105, 110, 95, 112, 104, 121, 95, 112, 111, 114, 116]))), (1, 1, (.c (.int .i64 32))), (2, 1, (.c (.int .i64 4))), (3, 1, (.c (.kb false))), (4, 1, (.c (.int .i64 0))), (5, 1, (.c (.imm (.int .u64) [])))], none⟩ : IOper) ::
     (⟨(some 3), .buildAll 6 [(0, 1, (.c (.str [109, 101, 116, 97, 100, 97, 116, 97]))), (1, 1, (.c (.int .i64 64))), (2, 1, (.c (.int .i64 8))), (3, 1, (.c (.kb true))), (4, 1, (.c (.int .i64 (-1)))), (5, 1, (.c (.imm (.int .u64) [])))], none⟩ : IOper) ::
     (⟨(some 4), .buildAll 6 [(0, 1, (.c (.str [101, 116, 104, 95, 100, 115, 116]))), (1, 1, (.c (.int .i64 48))), (2, 1, (.c (.int .i64 6))), (3, 1, (.c (.kb true))), (4, 1, (.c (.int .i64 (-1)))), (5, 1, (.c (.imm (.int .u64) [])))], none⟩ : IOper) ::
     (⟨(some 5), .buildAll 6 [(0, 1, (.c (.str [101, 116, 104, 95, 115, 114, 99]))), (1, 1, (.c (.int .i64 48))), (2, 1, (.c (.int .i64 6))), (3, 1, (.c (.kb true))), (4, 1, (.c (.int .i64 (-1)))), (5, 1, (.c (.imm (.int .u64) [])))], none⟩ : IOper) ::
     (⟨(some 6), .buildAll 6 [(0, 1, (.c (.str [101, 116, 104, 95, 116, 121, 112, 101]))), (1, 1, (.c (.int .i64 16))), (2, 1, (.c (.int .i64 2))), (3, 1, (.c (.kb false))), (4, 1, (.c (.int .i64 (-1)))), (5, 1, (.c (.imm (.int .u64) [])))], none⟩ : IOper) ::
     (⟨(some 7), .buildAll 6 [(0, 1, (.c (.str [118, 108, 97, 110, 95, 118, 105, 100]))), (1, 1, (.c (.int .i64 13))), (2, 1, (.c (.int .i64 2))), (3, 1, (.c (.kb true))), (4, 1, (.c (.int .i64 (-1)))), (5, 1, (.c (.imm (.int .u64) [])))], none⟩ : IOper) ::
     (⟨(some 8), .buildAll 6 [(0, 1, (.c (.str [118, 108, 97, 110, 95, 112, 99, 112]))), (1, 1, (.c (.int .i64 3))), (2, 1, (.c (.int .i64 1))), (3, 1, (.c (.kb false))), (4, 1, (.c (.int .i64 6))), (5, 1, (.c (.imm (.int .u64) [])))], none⟩ : IOper) ::
     (⟨(some 9), .sliceAll (.int .u64) 2 [(0, 1, (.c (.int .u64 2048))), (1, 1, (.c (.int .u64 34525)))], none⟩ : IOper) ::
     (⟨(some 10), .buildAll 6 [(0, 1, (.c (.str [105, 112, 95, 100, 115, 99, 112]))), (1, 1, (.c (.int .i64 6))), (2, 1, (.c (.int .i64 1))), (3, 1, (.c (.kb false))), (4, 1, (.c (.int .i64 5))), (5, 1, (.t 9))], none⟩ : IOper) ::
     (⟨(some 11), .sliceAll (.int .u64) 2 [(0, 1, (.c (.int .u64 2048))), (1, 1, (.c (.int .u64 34525)))], none⟩ : IOper) ::
     (⟨(some 12), .buildAll 6 [(0, 1, (.c (.str [105, 112, 95, 101, 99, 110]))), (1, 1, (.c (.int .i64 2))), (2, 1, (.c (.int .i64 1))), (3, 1, (.c (.kb false))), (4, 1, (.c (.int .i64 5))), (5, 1, (.t 11))], none⟩ : IOper) ::
     (⟨(some 13), .sliceAll (.int .u64) 2 [(0, 1, (.c (.int .u64 2048))), (1, 1, (.c (.int .u64 34525)))], none⟩ : IOper) ::
     (⟨(some 14), .buildAll 6 [(0, 1, (.c (.str [105, 112, 95, 112, 114, 111, 116, 111]))), (1, 1, (.c (.int .i64 8))), (2, 1, (.c (.int .i64 1))), (3, 1, (.c (.kb false))), (4, 1, (.c (.int .i64 5))), (5, 1, (.t 13))], none⟩ : IOper) ::
     (⟨(some 15), .sliceAll (.int .u64) 1 [(0, 1, (.c (.int .u64 2048)))], none⟩ : IOper) ::
     (⟨(some 16), .buildAll 6 [(0, 1, (.c (.str [105, 112, 118, 52, 95, 115, 114, 99]))), (1, 1, (.c (.int .i64 32))), (2, 1, (.c (.int .i64 4))), (3, 1, (.c (.kb true))), (4, 1, (.c (.int .i64 5))), (5, 1, (.t 15))], none⟩ : IOper) ::
     (⟨(some 17), .sliceAll (.int .u64) 1 [(0, 1, (.c (.int .u64 2048)))], none⟩ : IOper) ::
     (⟨(some 18), .buildAll 6 [(0, 1, (.c (.str [105, 112, 118, 52, 95, 100, 115, 116]))), (1, 1, (.c (.int .i64 32))), (2, 1, (.c (.int .i64 4))), (3, 1, (.c (.kb true))), (4, 1, (.c (.int .i64 5))), (5, 1, (.t 17))], none⟩ : IOper) ::
     (⟨(some 19), .sliceAll (.int .u64) 1 [(0, 1, (.c (.int .u64 6)))], none⟩ : IOper) ::
     (⟨(some 20), .buildAll 6 [(0, 1, (.c (.str [116, 99, 112, 95, 115, 114, 99]))), (1, 1, (.c (.int .i64 16))), (2, 1, (.c (.int .i64 2))), (3, 1, (.c (.kb false))), (4, 1, (.c (.int .i64 10))), (5, 1, (.t 19))], none⟩ : IOper) ::
     (⟨(some 21), .sliceAll (.int .u64) 1 [(0, 1, (.c (.int .u64 6)))], none⟩ : IOper) ::
     (⟨(some 22), .buildAll 6 [(0, 1, (.c (.str [116, 99, 112, 95, 100, 115, 116]))), (1, 1, (.c (.int .i64 16))), (2, 1, (.c (.int .i64 2))), (3, 1, (.c (.kb false))), (4, 1, (.c (.int .i64 10))), (5, 1, (.t 21))], none⟩ : IOper) ::
     (⟨(some 23), .sliceAll (.int .u64) 1 [(0, 1, (.c (.int .u64 17)))], none⟩ : IOper) ::
     (⟨(some 24), .buildAll 6 [(0, 1, (.c (.str [117, 100, 112, 95, 115, 114, 99]))), (1, 1, (.c (.int .i64 16))), (2, 1, (.c (.int .i64 2))), (3, 1, (.c (.kb false))), (4, 1, (.c (.int .i64 10))), (5, 1, (.t 23))], none⟩ : IOper) ::
     (⟨(some 25), .sliceAll (.int .u64) 1 [(0, 1, (.c (.int .u64 17)))], none⟩ : IOper) ::
     (⟨(some 26), .buildAll 6 [(0, 1, (.c (.str [117, 100, 112, 95, 100, 115, 116]))), (1, 1, (.c (.int .i64 16))), (2, 1, (.c (.int .i64 2))), (3, 1, (.c (.kb false))), (4, 1, (.c (.int .i64 10))), (5, 1, (.t 25))], none⟩ : IOper) ::
     (⟨(some 27), .sliceAll (.int .u64) 1 [(0, 1, (.c (.int .u64 132)))], none⟩ : IOper) ::
     (⟨(some 28), .buildAll 6 [(0, 1, (.c (.str [115, 99, 116, 112, 95, 115, 114, 99]))), (1, 1, (.c (.int .i64 16))), (2, 1, (.c (.int .i64 2))), (3, 1, (.c (.kb false))), (4, 1, (.c (.int .i64 10))), (5, 1, (.t 27))], none⟩ : IOper) ::
     (⟨(some 29), .sliceAll (.int .u64) 1 [(0, 1, (.c (.int .u64 132)))], none⟩ : IOper) ::
     (⟨(some 30), .buildAll 6 [(0, 1, (.c (.str [115, 99, 116, 112, 95, 100, 115, 116]))), (1, 1, (.c (.int .i64 16))), (2, 1, (.c (.int .i64 2))), (3, 1, (.c (.kb false))), (4, 1, (.c (.int .i64 10))), (5, 1, (.t 29))], none⟩ : IOper) ::
     (⟨(some 31), .sliceAll (.int .u64) 1 [(0, 1, (.c (.int .u64 1)))], none⟩ : IOper) ::
     (⟨(some 32), .buildAll 6 [(0, 1, (.c (.str [105, 99, 109, 112, 118, 52, 95, 116, 121, 112, 101]))), (1, 1, (.c (.int .i64 8))), (2, 1, (.c (.int .i64 1))), (3, 1, (.c (.kb false))), (4, 1, (.c (.int .i64 10))), (5, 1, (.t 31))], none⟩ : IOper) ::
     (⟨(some 33), .sliceAll (.int .u64) 1 [(0, 1, (.c (.int .u64 1)))], none⟩ : IOper) ::
     (⟨(some 34), .buildAll 6 [(0, 1, (.c (.str [105, 99, 109, 112, 118, 52, 95, 99, 111, 100, 101]))), (1, 1, (.c (.int .i64 8))), (2, 1, (.c (.int .i64 1))), (3, 1, (.c (.kb false))), (4, 1, (.c (.int .i64 10))), (5, 1, (.t 33))], none⟩ : IOper) ::
     (⟨(some 35), .sliceAll (.int .u64) 1 [(0, 1, (.c (.int .u64 2054)))], none⟩ : IOper) ::
     (⟨(some 36), .buildAll 6 [(0, 1, (.c (.str [97, 114, 112, 95, 111, 112]))), (1, 1, (.c (.int .i64 16))), (2, 1, (.c (.int .i64 2))), (3, 1, (.c (.kb false))), (4, 1, (.c (.int .i64 5))), (5, 1, (.t 35))], none⟩ : IOper) ::
     (⟨(some 37), .sliceAll (.int .u64) 1 [(0, 1, (.c (.int .u64 2054)))], none⟩ : IOper) ::
     (⟨(some 38), .buildAll 6 [(0, 1, (.c (.str [97, 114, 112, 95, 115, 112, 97]))), (1, 1, (.c (.int .i64 32))), (2, 1, (.c (.int .i64 4))), (3, 1, (.c (.kb true))), (4, 1, (.c (.int .i64 5))), (5, 1, (.t 37))], none⟩ : IOper) ::
     (⟨(some 39), .sliceAll (.int .u64) 1 [(0, 1, (.c (.int .u64 2054)))], none⟩ : IOper) ::
     (⟨(some 40), .buildAll 6 [(0, 1, (.c (.str [97, 114, 112, 95, 116, 112, 97]))), (1, 1, (.c (.int .i64 32))), (2, 1, (.c (.int .i64 4))), (3, 1, (.c (.kb true))), (4, 1, (.c (.int .i64 5))), (5, 1, (.t 39))], none⟩ : IOper) ::
     (⟨(some 41), .sliceAll (.int .u64) 1 [(0, 1, (.c (.int .u64 2054)))], none⟩ : IOper) ::
     (⟨(some 42), .buildAll 6 [(0, 1, (.c (.str [97, 114, 112, 95, 115, 104, 97]))), (1, 1, (.c (.int .i64 48))), (2, 1, (.c (.int .i64 6))), (3, 1, (.c (.kb true))), (4, 1, (.c (.int .i64 5))), (5, 1, (.t 41))], none⟩ : IOper) ::
     (⟨(some 43), .sliceAll (.int .u64) 1 [(0, 1, (.c (.int .u64 2054)))], none⟩ : IOper) ::
     (⟨(some 44), .buildAll 6 [(0, 1, (.c (.str [97, 114, 112, 95, 116, 104, 97]))), (1, 1, (.c (.int .i64 48))), (2, 1, (.c (.int .i64 6))), (3, 1, (.c (.kb true))), (4, 1, (.c (.int .i64 5))), (5, 1, (.t 43))], none⟩ : IOper) ::
     (⟨(some 45), .sliceAll (.int .u64) 1 [(0, 1, (.c (.int .u64 34525)))], none⟩ : IOper) ::
     (⟨(some 46), .buildAll 6 [(0, 1, (.c (.str [105, 112, 118, 54, 95, 115, 114, 99]))), (1, 1, (.c (.int .i64 128))), (2, 1, (.c (.int .i64 16))), (3, 1, (.c (.kb true))), (4, 1, (.c (.int .i64 5))), (5, 1, (.t 45))], none⟩ : IOper) ::
     (⟨(some 47), .sliceAll (.int .u64) 1 [(0, 1, (.c (.int .u64 34525)))], none⟩ : IOper) ::
     (⟨(some 48), .buildAll 6 [(0, 1, (.c (.str [105, 112, 118, 54, 95, 100, 115, 116]))), (1, 1, (.c (.int .i64 128))), (2, 1, (.c (.int .i64 16))), (3, 1, (.c (.kb true))), (4, 1, (.c (.int .i64 5))), (5, 1, (.t 47))], none⟩ : IOper) ::
     (⟨(some 49), .sliceAll (.int .u64) 1 [(0, 1, (.c (.int .u64 34525)))], none⟩ : IOper) ::
     (⟨(some 50), .buildAll 6 [(0, 1, (.c (.str [105, 112, 118, 54, 95, 102, 108, 97, 98, 101, 108]))), (1, 1, (.c (.int .i64 20))), (2, 1, (.c (.int .i64 4))), (3, 1, (.c (.kb true))), (4, 1, (.c (.int .i64 5))), (5, 1, (.t 49))], none⟩ : IOper) ::
     (⟨(some 51), .sliceAll (.int .u64) 1 [(0, 1, (.c (.int .u64 58)))], none⟩ : IOper) ::
     (⟨(some 52), .buildAll 6 [(0, 1, (.c (.str [105, 99, 109, 112, 118, 54, 95, 116, 121, 112, 101]))), (1, 1, (.c (.int .i64 8))), (2, 1, (.c (.int .i64 1))), (3, 1, (.c (.kb false))), (4, 1, (.c (.int .i64 10))), (5, 1, (.t 51))], none⟩ : IOper) ::
     (⟨(some 53), .sliceAll (.int .u64) 1 [(0, 1, (.c (.int .u64 58)))], none⟩ : IOper) ::
     (⟨(some 54), .buildAll 6 [(0, 1, (.c (.str [105, 99, 109, 112, 118, 54, 95, 99, 111, 100, 101]))), (1, 1, (.c (.int .i64 8))), (2, 1, (.c (.int .i64 1))), (3, 1, (.c (.kb false))), (4, 1, (.c (.int .i64 10))), (5, 1, (.t 53))], none⟩ : IOper) ::
     (⟨(some 55), .sliceAll (.int .u64) 2 [(0, 1, (.c (.int .u64 135))), (1, 1, (.c (.int .u64 136)))], none⟩ : IOper) ::
     (⟨(some 56), .buildAll 6 [(0, 1, (.c (.str [105, 112, 118, 54, 95, 110, 100, 95, 116, 97, 114, 103, 101, 116]))), (1, 1, (.c (.int .i64 128))), (2, 1, (.c (.int .i64 16))), (3, 1, (.c (.kb false))), (4, 1, (.c (.int .i64 29))), (5, 1, (.t 55))], none⟩ : IOper) ::
     (⟨(some 57), .sliceAll (.int .u64) 1 [(0, 1, (.c (.int .u64 135)))], none⟩ : IOper) ::
     (⟨(some 58), .buildAll 6 [(0, 1, (.c (.str [105, 112, 118, 54, 95, 110, 100, 95, 115, 108, 108]))), (1, 1, (.c (.int .i64 48))), (2, 1, (.c (.int .i64 6))), (3, 1, (.c (.kb false))), (4, 1, (.c (.int .i64 29))), (5, 1, (.t 57))], none⟩ : IOper) ::
     (⟨(some 59), .sliceAll (.int .u64) 1 [(0, 1, (.c (.int .u64 136)))], none⟩ : IOper) ::
     (⟨(some 60), .buildAll 6 [(0, 1, (.c (.str [105, 112, 118, 54, 95, 110, 100, 95, 116, 108, 108]))), (1, 1, (.c (.int .i64 48))), (2, 1, (.c (.int .i64 6))), (3, 1, (.c (.kb false))), (4, 1, (.c (.int .i64 29))), (5, 1, (.t 59))], none⟩ : IOper) ::
     (⟨(some 61), .sliceAll (.int .u64) 2 [(0, 1, (.c (.int .u64 34887))), (1, 1, (.c (.int .u64 34888)))], none⟩ : IOper) ::
     (⟨(some 62), .buildAll 6 [(0, 1, (.c (.str [109, 112, 108, 115, 95, 108, 97, 98, 101, 108]))), (1, 1, (.c (.int .i64 20))), (2, 1, (.c (.int .i64 4))), (3, 1, (.c (.kb false))), (4, 1, (.c (.int .i64 5))), (5, 1, (.t 61))], none⟩ : IOper) ::
     (⟨(some 63), .sliceAll (.int .u64) 2 [(0, 1, (.c (.int .u64 34887))), (1, 1, (.c (.int .u64 34888)))], none⟩ : IOper) ::
     (⟨(some 64), .buildAll 6 [(0, 1, (.c (.str [109, 112, 108, 115, 95, 116, 99]))), (1, 1, (.c (.int .i64 3))), (2, 1, (.c (.int .i64 1))), (3, 1, (.c (.kb false))), (4, 1, (.c (.int .i64 5))), (5, 1, (.t 63))], none⟩ : IOper) ::
     (⟨(some 65), .sliceAll (.int .u64) 2 [(0, 1, (.c (.int .u64 34887))), (1, 1, (.c (.int .u64 34888)))], none⟩ : IOper) ::
     (⟨(some 66), .buildAll 6 [(0, 1, (.c (.str [109, 112, 108, 115, 95, 98, 111, 115]))), (1, 1, (.c (.int .i64 1))), (2, 1, (.c (.int .i64 1))), (3, 1, (.c (.kb false))), (4, 1, (.c (.int .i64 5))), (5, 1, (.t 65))], none⟩ : IOper) ::
     (⟨(some 67), .sliceAll (.int .u64) 1 [(0, 1, (.c (.int .u64 35047)))], none⟩ : IOper) ::
     (⟨(some 68), .buildAll 6 [(0, 1, (.c (.str [112, 98, 98, 95, 105, 115, 105, 100]))), (1, 1, (.c (.int .i64 24))), (2, 1, (.c (.int .i64 3))), (3, 1, (.c (.kb true))), (4, 1, (.c (.int .i64 5))), (5, 1, (.t 67))], none⟩ : IOper) ::
     (⟨(some 69), .buildAll 6 [(0, 1, (.c (.str [116, 117, 110, 110, 101, 108, 95, 105, 100]))), (1, 1, (.c (.int .i64 64))), (2, 1, (.c (.int .i64 8))), (3, 1, (.c (.kb true))), (4, 1, (.c (.int .i64 (-1)))), (5, 1, (.c (.imm (.int .u64) [])))], none⟩ : IOper) ::
     (⟨(some 70), .sliceAll (.int .u64) 1 [(0, 1, (.c (.int .u64 34525)))], none⟩ : IOper) ::
     (⟨(some 71), .buildAll 6 [(0, 1, (.c (.str [105, 112, 118, 54, 95, 101, 120, 116, 104, 100, 114]))), (1, 1, (.c (.int .i64 9))), (2, 1, (.c (.int .i64 2))), (3, 1, (.c (.kb true))), (4, 1, (.c (.int .i64 5))), (5, 1, (.t 70))], none⟩ : IOper) ::
     (⟨(some 72), .sliceAll (.cons .str (.cons (.int .i64) (.cons (.int .i64) (.cons .bool (.cons (.int .i64) (.cons (.sl (.int .u64)) .nil)))))) 40 [(0, 6, (.t 1)), (6, 6, (.t 2)), (12, 6, (.t 3)), (18, 6, (.t 4)), (24, 6, (.t 5)), (30, 6, (.t 6)), (36, 6, (.t 7)), (42, 6, (.t 8)), (48, 6, (.t 10)), (54, 6, (.t 12)), (60, 6, (.t 14)), (66, 6, (.t 16)), (72, 6, (.t 18)), (78, 6, (.t 20)), (84, 6, (.t 22)), (90, 6, (.t 24)), (96, 6, (.t 26)), (102, 6, (.t 28)), (108, 6, (.t 30)), (114, 6, (.t 32)), (120, 6, (.t 34)), (126, 6, (.t 36)), (132, 6, (.t 38)), (138, 6, (.t 40)), (144, 6, (.t 42)), (150, 6, (.t 44)), (156, 6, (.t 46)), (162, 6, (.t 48)), (168, 6, (.t 50)), (174, 6, (.t 52)), (180, 6, (.t 54)), (186, 6, (.t 56)), (192, 6, (.t 58)), (198, 6, (.t 60)), (204, 6, (.t 62)), (210, 6, (.t 64)), (216, 6, (.t 66)), (222, 6, (.t 68)), (228, 6, (.t 69)), (234, 6, (.t 71))], none⟩ : IOper) ::
     (⟨(some 0), .mov (.t 72), none⟩ : IOper) ::
     []))
   .ret))
def rd_r07_All : List RD := [.tmp 0 true (some (.cons .str (.cons (.int .i64) (.cons (.int .i64) (.cons .bool (.cons (.int .i64) (.cons (.sl (.int .u64)) .nil)))))))]
theorem ok_r07_All : fnOk Tryd.prog Tryd.f49 ir_r07_All rd_r07_All = true := by kernel_rfl
def S_r07_All : List AV → List Obj → Option (Prop × AV)
  | [], [] => some (True, .imm fieldT tab)
  | _, _ => none
theorem snd_r07_All : SoundS Tryd.prog 49 (RoF S_r07_All).sum := by
  refine ro_fn Tryd.func49 ok_r07_All (env_nil _) fun args objs p v e => ?_
  unfold S_r07_All at e
  split at e
  · cases e
    refine ⟨rfl, fun hw _ hp => ?_⟩
    repeat' (intro t ht; first | (cases t <;> first | (cases ht; done) | ((try simp only [Bool.not_eq_eq_eq_not, Bool.not_true, Bool.not_false, Bool.and_eq_true, Bool.and_eq_false_iff, decide_eq_true_eq, decide_eq_false_iff_not] at ht); (try simp only [Int.toNat_natCast, dflt_int] at ht))) | (refine ht ?_ ?_ <;> clear ht) | (refine ht.1 ?_ ?_ <;> clear ht) | (refine ht ?_; clear ht))
    exact ⟨rfl, rfl⟩
  · cases e
def tabG (n : Int) : fieldT.den := tab.getD n.toNat fieldT.dflt
def nameR (n : Int) : List Int := if fIs n then (tabG n).1 else []
def bitsR (n : Int) : Int := if fIs n then (tabG n).2.1 else 0
def sizeR (n : Int) : Int := if fIs n then (tabG n).2.2.1 else 0
def maskR (n : Int) : Bool := if fIs n then (tabG n).2.2.2.1 else false
def needR (n : Int) : Int := if fIs n then (tabG n).2.2.2.2.1 else 0
def valsR (n : Int) : List Int := if fIs n then (tabG n).2.2.2.2.2.1 else []
abbrev ofR (n : Int) : AV := .tup [.agg [.str (nameR n), .int .i64 (bitsR n), .int .i64 (sizeR n), .bool (maskR n), .int .i64 (needR n), .imm (.int .u64) (valsR n)], .bool (fIs n)]
theorem tabL : tab.length = 40 := rfl
def ir_r07_Of : IR :=
 (.seq
  (.reg ((⟨(some 2), .box [.str [], .int .i64 0, .int .i64 0, .kb false, .int .i64 0, .imm (.int .u64) []], none⟩ : IOper) ::
    (⟨(some 3), .mov (.c (.kb false)), none⟩ : IOper) ::
    []))
  (.seq
   (.reg ((⟨(some 5), .call false (.f 49) [], none⟩ : IOper) ::
     (⟨(some 4), .mov (.t 5), none⟩ : IOper) ::
     []))
   (.seq
    (.seq
     (.reg ((⟨(some 6), .mov (.t 0), none⟩ : IOper) ::
       (⟨(some 7), .bin .lss (.t 6) (.c (.int .i64 0)), none⟩ : IOper) ::
       (⟨(some 8), .mov (.t 7), none⟩ : IOper) ::
       (⟨(some 9), .mov (.t 0), (some (8, false))⟩ : IOper) ::
       (⟨(some 10), .mov (.t 4), (some (8, false))⟩ : IOper) ::
       (⟨(some 11), .len (.t 10), (some (8, false))⟩ : IOper) ::
       (⟨(some 12), .bin .geq (.t 9) (.t 11), (some (8, false))⟩ : IOper) ::
       (⟨(some 13), .pick (.t 8) (.c (.kb true)) (.t 12), none⟩ : IOper) ::
       []))
     (.cond (.t 13)
      (.seq
       (.reg ((⟨(some 14), .build [.str [], .int .i64 0, .int .i64 0, .kb false, .int .i64 0, .imm (.int .u64) []] [], none⟩ : IOper) ::
         (⟨none, .store 6 (.t 2) (.t 14), none⟩ : IOper) ::
         (⟨(some 3), .mov (.c (.kb false)), none⟩ : IOper) ::
         []))
       .ret)
      .skip))
    (.seq
     (.reg ((⟨(some 15), .mov (.t 4), none⟩ : IOper) ::
       (⟨(some 16), .mov (.t 0), none⟩ : IOper) ::
       (⟨(some 17), .indexSl 6 (.t 15) (.t 16), none⟩ : IOper) ::
       (⟨(some 18), .load (some 6) (.t 17), none⟩ : IOper) ::
       (⟨none, .store 6 (.t 2) (.t 18), none⟩ : IOper) ::
       (⟨(some 3), .mov (.c (.kb true)), none⟩ : IOper) ::
       []))
     .ret))))
def rd_r07_Of : List RD := [.cell 2 (some 6) true, .tmp 3 true none]
theorem ok_r07_Of : fnOk Tryd.prog Tryd.f26 ir_r07_Of rd_r07_Of = true := by kernel_rfl
def S_r07_Of : List AV → List Obj → Option (Prop × AV)
  | [.int .i64 n], [] => some ((True, ofR n))
  | _, _ => none
theorem snd_r07_Of : SoundS Tryd.prog 26 (RoF S_r07_Of).sum := by
  refine ro_fn Tryd.func26 ok_r07_Of (env_cons (s := RoF S_r07_All) snd_r07_All (env_nil _)) fun args objs p v e => ?_
  unfold S_r07_Of at e
  split at e
  · rename_i n
    cases e
    refine ⟨rfl, fun hw ho hp => ?_⟩
    repeat' (intro t ht; first | (cases t <;> first | (cases ht; done) | ((try simp only [Bool.not_eq_eq_eq_not, Bool.not_true, Bool.not_false, Bool.and_eq_true, Bool.and_eq_false_iff, decide_eq_true_eq, decide_eq_false_iff_not] at ht); (try simp only [Int.toNat_natCast, dflt_int] at ht))) | (refine ht ?_ ?_ <;> clear ht) | (refine ht.1 ?_ ?_ <;> clear ht) | (refine ht ?_; clear ht))
    all_goals first
      | trivial
      | ((try simp only [Int.toNat_natCast, dflt_int, decide_eq_true_eq, decide_eq_false_iff_not, Bool.not_eq_eq_eq_not, Bool.not_true, Bool.not_false, Bool.and_eq_true, Bool.and_eq_false_iff, min_i64, max_i64, min_u64, max_u64, min_u32, max_u32, min_u16, max_u16, min_u8, max_u8] at *); rw [tabL] at *; omega)
      | (refine ⟨?_, rfl⟩
         first
           | (have hn : fIs n = true := fIs_t.2 (by (try simp only [Int.toNat_natCast, dflt_int, decide_eq_true_eq, decide_eq_false_iff_not, Bool.not_eq_eq_eq_not, Bool.not_true, Bool.not_false, Bool.and_eq_true, Bool.and_eq_false_iff, min_i64, max_i64, min_u64, max_u64, min_u32, max_u32, min_u16, max_u16, min_u8, max_u8] at *); rw [tabL] at *; omega)
              unfold ofR nameR bitsR sizeR maskR needR valsR; rw [hn]; rfl)
           | (have hn : fIs n = false := fIs_f.2 (by (try simp only [Int.toNat_natCast, dflt_int, decide_eq_true_eq, decide_eq_false_iff_not, Bool.not_eq_eq_eq_not, Bool.not_true, Bool.not_false, Bool.and_eq_true, Bool.and_eq_false_iff, min_i64, max_i64, min_u64, max_u64, min_u32, max_u32, min_u16, max_u16, min_u8, max_u8] at *); rw [tabL] at *; omega)
              unfold ofR nameR bitsR sizeR maskR needR valsR; rw [hn]; rfl)
           | (have hn : fIs n = false := fIs_f.2 (by (try simp only [Int.toNat_natCast, dflt_int, decide_eq_true_eq, decide_eq_false_iff_not, Bool.not_eq_eq_eq_not, Bool.not_true, Bool.not_false, Bool.and_eq_true, Bool.and_eq_false_iff, min_i64, max_i64, min_u64, max_u64, min_u32, max_u32, min_u16, max_u16, min_u8, max_u8] at *); omega)
              unfold ofR nameR bitsR sizeR maskR needR valsR; rw [hn]; rfl))
  · cases e
def spareF (s : Int) : List Int → Bool
  | [] => true
  | b :: r => if b.fdiv (2 ^ (min (8 - (if 8 < s then 8 else s)).toNat 8)) = 0 then spareF (s - (if 8 < s then 8 else s)) r else false
theorem spareF_step {s : Int} {v : List Int} {i : Nat} (h : i < v.length) : spareF s (v.drop i) = if (v.getD i 0).fdiv (2 ^ (min (8 - (if 8 < s then 8 else s)).toNat 8)) = 0 then spareF (s - (if 8 < s then 8 else s)) (v.drop (i + 1)) else false := by
  rw [List.drop_eq_getElem_cons h, List.getD_eq_getElem?_getD, List.getElem?_eq_getElem h]
  rfl
theorem spareF_end {s : Int} {v : List Int} {i : Nat} (h : v.length ≤ i) : spareF s (v.drop i) = true := by
  rw [List.drop_of_length_le h]; rfl
def fitsF (n : Int) (v : List Int) : Bool := if (0 ≤ n ∧ n < 40) ∧ (v.length : Int) = sizeF n then spareF (8 * sizeF n - bitsL.getD n.toNat 0) v else false
theorem size_le : ∀ k < 40, 1 ≤ sizeF (k : Nat) ∧ sizeF (k : Nat) ≤ 16 ∧ 0 ≤ 8 * sizeF (k : Nat) - bitsL.getD k 0 ∧ 8 * sizeF (k : Nat) - bitsL.getD k 0 ≤ 12 := by decide
def ir_field_Fits : IR :=
 (.seq
  (.reg ((⟨(some 4), .mov (.c (.kb false)), none⟩ : IOper) ::
    []))
  (.seq
   (.seq
    (.reg ((⟨(some 9), .mov (.t 0), none⟩ : IOper) ::
      (⟨(some 10), .call false (.f 62) [(.t 9)], none⟩ : IOper) ::
      (⟨(some 11), .un .not (.t 10), none⟩ : IOper) ::
      (⟨(some 12), .mov (.t 11), none⟩ : IOper) ::
      (⟨(some 13), .mov (.t 1), (some (12, false))⟩ : IOper) ::
      (⟨(some 14), .len (.t 13), (some (12, false))⟩ : IOper) ::
      (⟨(some 15), .mov (.t 0), (some (12, false))⟩ : IOper) ::
      (⟨(some 16), .call false (.f 64) [(.t 15)], (some (12, false))⟩ : IOper) ::
      (⟨(some 17), .bin .neq (.t 14) (.t 16), (some (12, false))⟩ : IOper) ::
      (⟨(some 18), .pick (.t 12) (.c (.kb true)) (.t 17), none⟩ : IOper) ::
      []))
    (.cond (.t 18)
     (.seq
      (.reg ((⟨(some 4), .mov (.c (.kb false)), none⟩ : IOper) ::
        []))
      .ret)
     .skip))
   (.seq
    (.reg ((⟨(some 19), .mov (.t 0), none⟩ : IOper) ::
      (⟨(some 20), .call false (.f 64) [(.t 19)], none⟩ : IOper) ::
      (⟨(some 21), .bin .mul (.c (.int .i64 8)) (.t 20), none⟩ : IOper) ::
      (⟨(some 22), .mov (.t 0), none⟩ : IOper) ::
      (⟨(some 23), .call false (.f 63) [(.t 22)], none⟩ : IOper) ::
      (⟨(some 24), .bin .sub (.t 21) (.t 23), none⟩ : IOper) ::
      (⟨(some 5), .mov (.t 24), none⟩ : IOper) ::
      []))
    (.seq
     (.seq
      (.reg ((⟨(some 25), .mov (.t 1), none⟩ : IOper) ::
        (⟨(some 26), .len (.t 25), none⟩ : IOper) ::
        (⟨(some 27), .mov (.c (.int .i64 0)), none⟩ : IOper) ::
        []))
      (.block 0
       (.loop
        (.seq
         (.reg ((⟨(some 28), .bin .lss (.t 27) (.t 26), none⟩ : IOper) ::
           []))
         (.seq
          (.cond (.t 28)
           .skip
           (.exit 0))
          (.seq
           (.block 1
            (.seq
             (.reg ((⟨(some 29), .indexSl 1 (.t 25) (.t 27), none⟩ : IOper) ::
               (⟨(some 30), .load none (.t 29), none⟩ : IOper) ::
               (⟨(some 7), .mov (.t 30), none⟩ : IOper) ::
               []))
             (.seq
              (.reg ((⟨(some 31), .mov (.t 5), none⟩ : IOper) ::
                (⟨(some 32), .minmax false (.t 31) (.c (.int .i64 8)), none⟩ : IOper) ::
                (⟨(some 8), .mov (.t 32), none⟩ : IOper) ::
                []))
              (.seq
               (.seq
                (.reg ((⟨(some 33), .mov (.t 7), none⟩ : IOper) ::
                  (⟨(some 34), .mov (.t 8), none⟩ : IOper) ::
                  (⟨(some 35), .bin .sub (.c (.int .i64 8)) (.t 34), none⟩ : IOper) ::
                  (⟨(some 36), .bin .shr (.t 33) (.t 35), none⟩ : IOper) ::
                  (⟨(some 37), .bin .neq (.t 36) (.c (.int .u8 0)), none⟩ : IOper) ::
                  []))
                (.cond (.t 37)
                 (.seq
                  (.reg ((⟨(some 4), .mov (.c (.kb false)), none⟩ : IOper) ::
                    []))
                  .ret)
                 .skip))
               (.reg ((⟨(some 38), .mov (.t 5), none⟩ : IOper) ::
                 (⟨(some 39), .mov (.t 8), none⟩ : IOper) ::
                 (⟨(some 40), .bin .sub (.t 38) (.t 39), none⟩ : IOper) ::
                 (⟨(some 5), .mov (.t 40), none⟩ : IOper) ::
                 []))))))
           (.reg ((⟨(some 41), .bin .add (.t 27) (.c (.int .i64 1)), none⟩ : IOper) ::
             (⟨(some 27), .mov (.t 41), none⟩ : IOper) ::
             []))))))))
     (.seq
      (.reg ((⟨(some 4), .mov (.c (.kb true)), none⟩ : IOper) ::
        []))
      .ret)))))
def rd_field_Fits : List RD := [.tmp 4 true none]
theorem ok_field_Fits : fnOk Tryd.prog Tryd.f45 ir_field_Fits rd_field_Fits = true := by kernel_rfl
def S_field_Fits : List AV → List Obj → Option (Prop × AV)
  | [.int .i64 n, .imm (.int .u8) v], [] => some (True, .bool (fitsF n v))
  | _, _ => none
theorem snd_field_Fits : SoundS Tryd.prog 45 (RoF S_field_Fits).sum := by
  refine ro_fn Tryd.func45 ok_field_Fits (env_cons (s := RoF S_field_is) snd_field_is (env_cons (s := RoF S_field_size) snd_field_size (env_cons (s := RoF S_field_bits) snd_field_bits (env_nil _)))) fun args objs p v e => ?_
  unfold S_field_Fits at e
  split at e
  · rename_i n v
    cases e
    refine ⟨rfl, fun hw _ hp => ?_⟩
    have hl : v.length ≤ maxLen := (hw (.imm (.int .u8) v) (by simp)).2
    unfold maxLen at hl
    repeat' (intro t ht; first | (cases t <;> first | (cases ht; done) | ((try simp only [Bool.not_eq_eq_eq_not, Bool.not_true, Bool.not_false, Bool.and_eq_true, Bool.and_eq_false_iff, decide_eq_true_eq, decide_eq_false_iff_not] at ht); (try simp only [Int.toNat_natCast, dflt_int] at ht))) | (refine ht ?_ ?_ <;> clear ht) | (refine ht.1 ?_ ?_ <;> clear ht) | (refine ht ?_; clear ht))
    all_goals first
      | trivial
      | (intro r h1 h2; (try simp only [fIs_t, fIs_f, Int.toNat_natCast, dflt_int, decide_eq_true_eq, decide_eq_false_iff_not, Bool.not_eq_eq_eq_not, Bool.not_true, Bool.not_false, Bool.and_eq_true, Bool.and_eq_false_iff, min_i64, max_i64, min_u64, max_u64, min_u32, max_u32, min_u16, max_u16, min_u8, max_u8] at *)
         have hsz := size_le n.toNat (by omega)
         rw [Int.toNat_of_nonneg (by omega)] at hsz
         refine h2 ⟨[25, 26, 27, 5], Nat × Int, (fun p => p.1 ≤ v.length ∧ 0 ≤ p.2 ∧ p.2 ≤ 12 ∧ spareF (8 * sizeF n - bitsL.getD n.toNat 0) v = spareF p.2 (v.drop p.1)),
           fun a => [.imm (.int .u8) v, .int .i64 v.length, .int .i64 a.1, .int .i64 a.2], fun _ => [], fun a => v.length - a.1, ⟨(0, 8 * sizeF n - bitsL.getD n.toNat 0), ⟨Nat.zero_le _, hsz.2.2.1, hsz.2.2.2, rfl⟩, rfl, rfl⟩, ?_⟩
         clear h1 h2)
      | ((try simp only [fIs_t, fIs_f, Int.toNat_natCast, dflt_int, decide_eq_true_eq, decide_eq_false_iff_not, Bool.not_eq_eq_eq_not, Bool.not_true, Bool.not_false, Bool.and_eq_true, Bool.and_eq_false_iff, min_i64, max_i64, min_u64, max_u64, min_u32, max_u32, min_u16, max_u16, min_u8, max_u8] at *); omega)
      | ((try simp only [fIs_t, fIs_f, Int.toNat_natCast, dflt_int, decide_eq_true_eq, decide_eq_false_iff_not, Bool.not_eq_eq_eq_not, Bool.not_true, Bool.not_false, Bool.and_eq_true, Bool.and_eq_false_iff, min_i64, max_i64, min_u64, max_u64, min_u32, max_u32, min_u16, max_u16, min_u8, max_u8] at *); have hsz := size_le n.toNat (by omega)
         rw [Int.toNat_of_nonneg (by omega)] at hsz
         have hb := bits_le n.toNat (by omega)
         omega)
      | (refine ⟨?_, rfl⟩; (try simp only [fIs_t, fIs_f, Int.toNat_natCast, dflt_int, decide_eq_true_eq, decide_eq_false_iff_not, Bool.not_eq_eq_eq_not, Bool.not_true, Bool.not_false, Bool.and_eq_true, Bool.and_eq_false_iff, min_i64, max_i64, min_u64, max_u64, min_u32, max_u32, min_u16, max_u16, min_u8, max_u8] at *); unfold fitsF; rw [if_neg (by omega)])
    rintro ⟨i, s⟩ ⟨hi, hs0, hs1, he⟩
    dsimp only at hi hs0 hs1 he
    repeat' (intro t ht; first | (cases t <;> first | (cases ht; done) | ((try simp only [Bool.not_eq_eq_eq_not, Bool.not_true, Bool.not_false, Bool.and_eq_true, Bool.and_eq_false_iff, decide_eq_true_eq, decide_eq_false_iff_not] at ht); (try simp only [Int.toNat_natCast, dflt_int] at ht))) | (refine ht ?_ ?_ <;> clear ht) | (refine ht.1 ?_ ?_ <;> clear ht) | (refine ht ?_; clear ht))
    all_goals have hk : 0 ≤ (if (8 : Int) < s then 8 else s) ∧ (if (8 : Int) < s then 8 else s) ≤ 8 ∧ (if (8 : Int) < s then 8 else s) ≤ s := by split <;> omega
    all_goals have hv : (0 ≤ n ∧ n < 40) ∧ (v.length : Int) = sizeF n := ⟨by omega, by omega⟩
    all_goals first
      | (refine ⟨?_, rfl⟩; unfold fitsF; rw [if_pos hv, he]; (try simp only [fIs_t, fIs_f, Int.toNat_natCast, dflt_int, decide_eq_true_eq, decide_eq_false_iff_not, Bool.not_eq_eq_eq_not, Bool.not_true, Bool.not_false, Bool.and_eq_true, Bool.and_eq_false_iff, min_i64, max_i64, min_u64, max_u64, min_u32, max_u32, min_u16, max_u16, min_u8, max_u8] at *); rw [spareF_end (by omega)]; done)
      | (refine ⟨?_, rfl⟩; unfold fitsF; rw [if_pos hv, he]; (try simp only [fIs_t, fIs_f, Int.toNat_natCast, dflt_int, decide_eq_true_eq, decide_eq_false_iff_not, Bool.not_eq_eq_eq_not, Bool.not_true, Bool.not_false, Bool.and_eq_true, Bool.and_eq_false_iff, min_i64, max_i64, min_u64, max_u64, min_u32, max_u32, min_u16, max_u16, min_u8, max_u8] at *); rw [spareF_step (by omega), if_neg (by assumption)]; done)
      | ((try simp only [fIs_t, fIs_f, Int.toNat_natCast, dflt_int, decide_eq_true_eq, decide_eq_false_iff_not, Bool.not_eq_eq_eq_not, Bool.not_true, Bool.not_false, Bool.and_eq_true, Bool.and_eq_false_iff, min_i64, max_i64, min_u64, max_u64, min_u32, max_u32, min_u16, max_u16, min_u8, max_u8] at *); omega)
      | ((try simp only [fIs_t, fIs_f, Int.toNat_natCast, dflt_int, decide_eq_true_eq, decide_eq_false_iff_not, Bool.not_eq_eq_eq_not, Bool.not_true, Bool.not_false, Bool.and_eq_true, Bool.and_eq_false_iff, min_i64, max_i64, min_u64, max_u64, min_u32, max_u32, min_u16, max_u16, min_u8, max_u8] at *); generalize (if (8 : Int) < s then 8 else s) = k at *; omega)
      | (have hlt : i < v.length := by ((try simp only [fIs_t, fIs_f, Int.toNat_natCast, dflt_int, decide_eq_true_eq, decide_eq_false_iff_not, Bool.not_eq_eq_eq_not, Bool.not_true, Bool.not_false, Bool.and_eq_true, Bool.and_eq_false_iff, min_i64, max_i64, min_u64, max_u64, min_u32, max_u32, min_u16, max_u16, min_u8, max_u8] at *); omega)
         refine ⟨(i + 1, s - (if (8 : Int) < s then 8 else s)), ⟨hlt, by dsimp only; omega, by dsimp only; omega, by (try simp only [fIs_t, fIs_f, Int.toNat_natCast, dflt_int, decide_eq_true_eq, decide_eq_false_iff_not, Bool.not_eq_eq_eq_not, Bool.not_true, Bool.not_false, Bool.and_eq_true, Bool.and_eq_false_iff, min_i64, max_i64, min_u64, max_u64, min_u32, max_u32, min_u16, max_u16, min_u8, max_u8] at *); rw [he, spareF_step hlt, if_pos (by assumption)]⟩, by dsimp only; omega, rfl, rfl⟩)
  · cases e
end Go.Eng
