/- The functions of the given program, in the small language. No condition. -/
import Derived.Test.YtcicjbcgnkbffaaProg
import Derived.Test.YtcicjbcgnkbffaaESum
import Derived.KernelRfl
namespace Go.Eng
open Go.Proofs
def ir_r07_All : IR :=
 (.seq
  (.reg ((⟨(some 0), .mov (.c (.imm (.cons .str (.cons (.int .i64) (.cons (.int .i64) (.cons .bool (.cons (.int .i64) (.cons (.sl (.int .u64)) .nil)))))) [])), none⟩ : IOper) ::
    []))
  (.seq
   (.reg ((⟨(some 1), .buildAll 6 [(0, 1, (.c (.str [105, 110, 95, 112, 111, 114, 116]))), (1, 1, (.c (.int .i64 32))), (2, 1, (.c (.int .i64 4))), (3, 1, (.c (.kb false))), (4, 1, (.c (.int .i64 (-1)))), (5, 1, (.c (.imm (.int .u64) [])))], none⟩ : IOper) ::
     (⟨(some 2), .buildAll 6 [(0, 1, (.c (.str [105, 110, 95, 112, 104, 121, 95, 112, 111, 114, 116]))), (1, 1, (.c (.int .i64 32))), (2, 1, (.c (.int .i64 4))), (3, 1, (.c (.kb false))), (4, 1, (.c (.int .i64 0))), (5, 1, (.c (.imm (.int .u64) [])))], none⟩ : IOper) ::
     (⟨(some 3), .buildAll 6 [(0, 1, (.c (.str [109, 101, 116, 97, 100, 97, 116, 97]))), (1, 1, (.c (.int .i64 64))), (2, 1, (.c (.int .i64 8))), (3, 1, (.c (.kb true))), (4, 1, (.c (.int .i64 (-1)))), (5, 1, (.c (.imm (.int .u64) [])))], none⟩ : IOper) ::
     (⟨(some 4), .buildAll 6 [(0, 1, (.c (.str [101, 116, 104, 95, 100, 115, 116]))), (1, 1, (.c (.int .i64 48))), (2, 1, (.c (.int .i64 6))), (3, 1, (.c (.kb true))), (4, 1, (.c (.int .i64 (-1)))), (5, 1, (.c (.imm (.int .u64) [])))], none⟩ : IOper) ::
     (⟨(some 5), .buildAll 6 [(0, 1, (.c (.str [101, 116, 104, 95, 115, 114, 99]))), (1, 1, (.c (.int .i64 48))), (2, 1, (.c (.int .i64 6))), (3, 1, (.c (.kb true))), (4, 1, (.c (.int .i64 (-1)))), (5, 1, (.c (.imm (.int .u64) [])))], none⟩ : IOper) ::
     (⟨(some 6), .buildAll 6 [(0, 1, (.c (.str [101, 116, 104, 95, 116, 121, 112, 101]))), (1, 1, (.c (.int .i64 16))), (2, 1, (.c (.int .i64 2))), (3, 1, (.c (.kb false))), (4, 1, (.c (.int .i64 (-1)))), (5, 1, (.c (.imm (.int .u64) [])))], none⟩ : IOper) ::
     (⟨(some 7), .buildAll 6 [(0, 1, (.c (.str [118, 108, 97, 110, 95, 118, 105, 100]))), (1, 1, (.c (.int .i64 13))), (2, 1, (.c (.int .i64 2))), (3, 1, (.c (.kb true))), (4, 1, (.c (.int .i64 (-1)))), (5, 1, (.c (.imm (.int .u64) [])))], none⟩ : IOper) ::
     (⟨(some 8), .buildAll 6 [(0, 1, (.c (.str [118, 108, 97, 110, 95, 112, 99, 112]))), (1, 1, (.c (.int .i64 3))), (2, 1, (.c (.int .i64 1))), (3, 1, (.c (.kb false))), (4, 1, (.c (.int .i64 6))), (5, 1, (.c (.imm (.int .u64) [])))], none⟩ : IOper) ::
     (⟨(some 9), .sliceAll (.int .u64) 2 [(0, 1, (.c (.int .u64 2048))), (1, 1, (.c (.int .u64 34525)))], none⟩ : IOper) ::
     (⟨(some 10), .buildAll 6 [(0, 1, (.c (.str [105, 112, 95, 100, 115, 99, 112]))), (1, 1, (.c (.int .i64 6))), (2, 1, (.c (.int .i64 1))), (3, 1, (.c (.kb false))), (4, 1, (.c (.int .i64 5))), (5, 1, (.t 9))], none⟩ : IOper) ::
     (⟨(some 11), .sliceAll (.int .u64) 2 [(0, 1, (.c (.int .u64 2048))), (1, 1, (.c (.int .u64 34525)))], none⟩ : IOper) ::
     (⟨(some 12), .buildAll 6 [(0, 1, (.c (.str [105, 112, 95, 101, 99, 110]))), (1, 1, (.c (.int .i64 2))), (2, 1, (.c (.int .i64 1))), (3, 1, (.c (.kb false))), (4, 1, (.c (.int .i64 5))), (5, 1, (.t 11))], none⟩ : IOper) ::
     (⟨(some 13), .sliceAll (.int .u64) 2 [(0, 1, (.c (.int .u64 2048))), (1, 1, (.c (.int .u64 34525)))], none⟩ : IOper) ::
     (⟨(some 14), .buildAll 6 [(0, 1, (.c (.str [105, 112, 95, 112, 114, 111, 116, 111]))), (1, 1, (.c (.int .i64 8))), (2, 1, (.c (.int .i64 1))), (3, 1, (.c (.kb false))), (4, 1, (.c (.int .i64 5))), (5, 1, (.t 13))], none⟩ : IOper) ::
     (⟨(some 15), .sliceAll (.int .u64) 1 [(0, 1, (.c (.int .u64 2048)))], none⟩ : IOper) ::
     (⟨(some 16), .buildAll 6 [(0, 1, (.c (.str [105, 112, 118, 52, 95, 115, 114, 99]))), (1, 1, (.c (.int .i64 32))), (2, 1, (.c (.int .i64 4))), (3, 1, (.c (.kb true))), (4, 1, (.c (.int .i64 5))), (5, 1, (.t 15))], none⟩ : IOper) ::
     (⟨(some 17), .sliceAll (.int .u64) 1 [(0, 1, (.c (.int .u64 2048)))], none⟩ : IOper) ::
     (⟨(some 18), .buildAll 6 [(0, 1, (.c (.str [105, 112, 118, 52, 95, 100, 115, 116]))), (1, 1, (.c (.int .i64 32))), (2, 1, (.c (.int .i64 4))), (3, 1, (.c (.kb true))), (4, 1, (.c (.int .i64 5))), (5, 1, (.t 17))], none⟩ : IOper) ::
     (⟨(some 19), .sliceAll (.int .u64) 1 [(0, 1, (.c (.int .u64 6)))], none⟩ : IOper) ::
     (⟨(some 20), .buildAll 6 [(0, 1, (.c (.str [116, 99, 112, 95, 115, 114, 99]))), (1, 1, (.c (.int .i64 16))), (2, 1, (.c (.int .i64 2))), (3, 1, (.c (.kb false))), (4, 1, (.c (.int .i64 10))), (5, 1, (.t 19))], none⟩ : IOper) ::
     (⟨(some 21), .sliceAll (.int .u64) 1 [(0, 1, (.c (.int .u64 6)))], none⟩ : IOper) ::
     (⟨(some 22), .buildAll 6 [(0, 1, (.c (.str [116, 99, 112, 95, 100, 115, 116]))), (1, 1, (.c (.int .i64 16))), (2, 1, (.c (.int .i64 2))), (3, 1, (.c (.kb false))), (4, 1, (.c (.int .i64 10))), (5, 1, (.t 21))], none⟩ : IOper) ::
     (⟨(some 23), .sliceAll (.int .u64) 1 [(0, 1, (.c (.int .u64 17)))], none⟩ : IOper) ::
     (⟨(some 24), .buildAll 6 [(0, 1, (.c (.str [117, 100, 112, 95, 115, 114, 99]))), (1, 1, (.c (.int .i64 16))), (2, 1, (.c (.int .i64 2))), (3, 1, (.c (.kb false))), (4, 1, (.c (.int .i64 10))), (5, 1, (.t 23))], none⟩ : IOper) ::
     (⟨(some 25), .sliceAll (.int .u64) 1 [(0, 1, (.c (.int .u64 17)))], none⟩ : IOper) ::
     (⟨(some 26), .buildAll 6 [(0, 1, (.c (.str [117, 100, 112, 95, 100, 115, 116]))), (1, 1, (.c (.int .i64 16))), (2, 1, (.c (.int .i64 2))), (3, 1, (.c (.kb false))), (4, 1, (.c (.int .i64 10))), (5, 1, (.t 25))], none⟩ : IOper) ::
     (⟨(some 27), .sliceAll (.int .u64) 1 [(0, 1, (.c (.int .u64 132)))], none⟩ : IOper) ::
     (⟨(some 28), .buildAll 6 [(0, 1, (.c (.str [115, 99, 116, 112, 95, 115, 114, 99]))), (1, 1, (.c (.int .i64 16))), (2, 1, (.c (.int .i64 2))), (3, 1, (.c (.kb false))), (4, 1, (.c (.int .i64 10))), (5, 1, (.t 27))], none⟩ : IOper) ::
     (⟨(some 29), .sliceAll (.int .u64) 1 [(0, 1, (.c (.int .u64 132)))], none⟩ : IOper) ::
     (⟨(some 30), .buildAll 6 [(0, 1, (.c (.str [115, 99, 116, 112, 95, 100, 115, 116]))), (1, 1, (.c (.int .i64 16))), (2, 1, (.c (.int .i64 2))), (3, 1, (.c (.kb false))), (4, 1, (.c (.int .i64 10))), (5, 1, (.t 29))], none⟩ : IOper) ::
     (⟨(some 31), .sliceAll (.int .u64) 1 [(0, 1, (.c (.int .u64 1)))], none⟩ : IOper) ::
     (⟨(some 32), .buildAll 6 [(0, 1, (.c (.str [105, 99, 109, 112, 118, 52, 95, 116, 121, 112, 101]))), (1, 1, (.c (.int .i64 8))), (2, 1, (.c (.int .i64 1))), (3, 1, (.c (.kb false))), (4, 1, (.c (.int .i64 10))), (5, 1, (.t 31))], none⟩ : IOper) ::
     (⟨(some 33), .sliceAll (.int .u64) 1 [(0, 1, (.c (.int .u64 1)))], none⟩ : IOper) ::
     (⟨(some 34), .buildAll 6 [(0, 1, (.c (.str [105, 99, 109, 112, 118, 52, 95, 99, 111, 100, 101]))), (1, 1, (.c (.int .i64 8))), (2, 1, (.c (.int .i64 1))), (3, 1, (.c (.kb false))), (4, 1, (.c (.int .i64 10))), (5, 1, (.t 33))], none⟩ : IOper) ::
     (⟨(some 35), .sliceAll (.int .u64) 1 [(0, 1, (.c (.int .u64 2054)))], none⟩ : IOper) ::
     (⟨(some 36), .buildAll 6 [(0, 1, (.c (.str [97, 114, 112, 95, 111, 112]))), (1, 1, (.c (.int .i64 16))), (2, 1, (.c (.int .i64 2))), (3, 1, (.c (.kb false))), (4, 1, (.c (.int .i64 5))), (5, 1, (.t 35))], none⟩ : IOper) ::
     (⟨(some 37), .sliceAll (.int .u64) 1 [(0, 1, (.c (.int .u64 2054)))], none⟩ : IOper) ::
     (⟨(some 38), .buildAll 6 [(0, 1, (.c (.str [97, 114, 112, 95, 115, 112, 97]))), (1, 1, (.c (.int .i64 32))), (2, 1, (.c (.int .i64 4))), (3, 1, (.c (.kb true))), (4, 1, (.c (.int .i64 5))), (5, 1, (.t 37))], none⟩ : IOper) ::
     (⟨(some 39), .sliceAll (.int .u64) 1 [(0, 1, (.c (.int .u64 2054)))], none⟩ : IOper) ::
     (⟨(some 40), .buildAll 6 [(0, 1, (.c (.str [97, 114, 112, 95, 116, 112, 97]))), (1, 1, (.c (.int .i64 32))), (2, 1, (.c (.int .i64 4))), (3, 1, (.c (.kb true))), (4, 1, (.c (.int .i64 5))), (5, 1, (.t 39))], none⟩ : IOper) ::
     (⟨(some 41), .sliceAll (.int .u64) 1 [(0, 1, (.c (.int .u64 2054)))], none⟩ : IOper) ::
     (⟨(some 42), .buildAll 6 [(0, 1, (.c (.str [97, 114, 112, 95, 115, 104, 97]))), (1, 1, (.c (.int .i64 48))), (2, 1, (.c (.int .i64 6))), (3, 1, (.c (.kb true))), (4, 1, (.c (.int .i64 5))), (5, 1, (.t 41))], none⟩ : IOper) ::
     (⟨(some 43), .sliceAll (.int .u64) 1 [(0, 1, (.c (.int .u64 2054)))], none⟩ : IOper) ::
     (⟨(some 44), .buildAll 6 [(0, 1, (.c (.str [97, 114, 112, 95, 116, 104, 97]))), (1, 1, (.c (.int .i64 48))), (2, 1, (.c (.int .i64 6))), (3, 1, (.c (.kb true))), (4, 1, (.c (.int .i64 5))), (5, 1, (.t 43))], none⟩ : IOper) ::
     (⟨(some 45), .sliceAll (.int .u64) 1 [(0, 1, (.c (.int .u64 34525)))], none⟩ : IOper) ::
     (⟨(some 46), .buildAll 6 [(0, 1, (.c (.str [105, 112, 118, 54, 95, 115, 114, 99]))), (1, 1, (.c (.int .i64 128))), (2, 1, (.c (.int .i64 16))), (3, 1, (.c (.kb true))), (4, 1, (.c (.int .i64 5))), (5, 1, (.t 45))], none⟩ : IOper) ::
     (⟨(some 47), .sliceAll (.int .u64) 1 [(0, 1, (.c (.int .u64 34525)))], none⟩ : IOper) ::
     (⟨(some 48), .buildAll 6 [(0, 1, (.c (.str [105, 112, 118, 54, 95, 100, 115, 116]))), (1, 1, (.c (.int .i64 128))), (2, 1, (.c (.int .i64 16))), (3, 1, (.c (.kb true))), (4, 1, (.c (.int .i64 5))), (5, 1, (.t 47))], none⟩ : IOper) ::
     (⟨(some 49), .sliceAll (.int .u64) 1 [(0, 1, (.c (.int .u64 34525)))], none⟩ : IOper) ::
     (⟨(some 50), .buildAll 6 [(0, 1, (.c (.str [105, 112, 118, 54, 95, 102, 108, 97, 98, 101, 108]))), (1, 1, (.c (.int .i64 20))), (2, 1, (.c (.int .i64 4))), (3, 1, (.c (.kb true))), (4, 1, (.c (.int .i64 5))), (5, 1, (.t 49))], none⟩ : IOper) ::
     (⟨(some 51), .sliceAll (.int .u64) 1 [(0, 1, (.c (.int .u64 58)))], none⟩ : IOper) ::
     (⟨(some 52), .buildAll 6 [(0, 1, (.c (.str [105, 99, 109, 112, 118, 54, 95, 116, 121, 112, 101]))), (1, 1, (.c (.int .i64 8))), (2, 1, (.c (.int .i64 1))), (3, 1, (.c (.kb false))), (4, 1, (.c (.int .i64 10))), (5, 1, (.t 51))], none⟩ : IOper) ::
     (⟨(some 53), .sliceAll (.int .u64) 1 [(0, 1, (.c (.int .u64 58)))], none⟩ : IOper) ::
     (⟨(some 54), .buildAll 6 [(0, 1, (.c (.str [105, 99, 109, 112, 118, 54, 95, 99, 111, 100, 101]))), (1, 1, (.c (.int .i64 8))), (2, 1, (.c (.int .i64 1))), (3, 1, (.c (.kb false))), (4, 1, (.c (.int .i64 10))), (5, 1, (.t 53))], none⟩ : IOper) ::
     (⟨(some 55), .sliceAll (.int .u64) 2 [(0, 1, (.c (.int .u64 135))), (1, 1, (.c (.int .u64 136)))], none⟩ : IOper) ::
     (⟨(some 56), .buildAll 6 [(0, 1, (.c (.str [105, 112, 118, 54, 95, 110, 100, 95, 116, 97, 114, 103, 101, 116]))), (1, 1, (.c (.int .i64 128))), (2, 1, (.c (.int .i64 16))), (3, 1, (.c (.kb false))), (4, 1, (.c (.int .i64 29))), (5, 1, (.t 55))], none⟩ : IOper) ::
     (⟨(some 57), .sliceAll (.int .u64) 1 [(0, 1, (.c (.int .u64 135)))], none⟩ : IOper) ::
     (⟨(some 58), .buildAll 6 [(0, 1, (.c (.str [105, 112, 118, 54, 95, 110, 100, 95, 115, 108, 108]))), (1, 1, (.c (.int .i64 48))), (2, 1, (.c (.int .i64 6))), (3, 1, (.c (.kb false))), (4, 1, (.c (.int .i64 29))), (5, 1, (.t 57))], none⟩ : IOper) ::
     (⟨(some 59), .sliceAll (.int .u64) 1 [(0, 1, (.c (.int .u64 136)))], none⟩ : IOper) ::
     (⟨(some 60), .buildAll 6 [(0, 1, (.c (.str [105, 112, 118, 54, 95, 110, 100, 95, 116, 108, 108]))), (1, 1, (.c (.int .i64 48))), (2, 1, (.c (.int .i64 6))), (3, 1, (.c (.kb false))), (4, 1, (.c (.int .i64 29))), (5, 1, (.t 59))], none⟩ : IOper) ::
     (⟨(some 61), .sliceAll (.int .u64) 2 [(0, 1, (.c (.int .u64 34887))), (1, 1, (.c (.int .u64 34888)))], none⟩ : IOper) ::
     (⟨(some 62), .buildAll 6 [(0, 1, (.c (.str [109, 112, 108, 115, 95, 108, 97, 98, 101, 108]))), (1, 1, (.c (.int .i64 20))), (2, 1, (.c (.int .i64 4))), (3, 1, (.c (.kb false))), (4, 1, (.c (.int .i64 5))), (5, 1, (.t 61))], none⟩ : IOper) ::
     (⟨(some 63), .sliceAll (.int .u64) 2 [(0, 1, (.c (.int .u64 34887))), (1, 1, (.c (.int .u64 34888)))], none⟩ : IOper) ::
     (⟨(some 64), .buildAll 6 [(0, 1, (.c (.str [109, 112, 108, 115, 95, 116, 99]))), (1, 1, (.c (.int .i64 3))), (2, 1, (.c (.int .i64 1))), (3, 1, (.c (.kb false))), (4, 1, (.c (.int .i64 5))), (5, 1, (.t 63))], none⟩ : IOper) ::
     (⟨(some 65), .sliceAll (.int .u64) 2 [(0, 1, (.c (.int .u64 34887))), (1, 1, (.c (.int .u64 34888)))], none⟩ : IOper) ::
     (⟨(some 66), .buildAll 6 [(0, 1, (.c (.str [109, 112, 108, 115, 95, 98, 111, 115]))), (1, 1, (.c (.int .i64 1))), (2, 1, (.c (.int .i64 1))), (3, 1, (.c (.kb false))), (4, 1, (.c (.int .i64 5))), (5, 1, (.t 65))], none⟩ : IOper) ::
     (⟨(some 67), .sliceAll (.int .u64) 1 [(0, 1, (.c (.int .u64 35047)))], none⟩ : IOper) ::
     (⟨(some 68), .buildAll 6 [(0, 1, (.c (.str [112, 98, 98, 95, 105, 115, 105, 100]))), (1, 1, (.c (.int .i64 24))), (2, 1, (.c (.int .i64 3))), (3, 1, (.c (.kb true))), (4, 1, (.c (.int .i64 5))), (5, 1, (.t 67))], none⟩ : IOper) ::
     (⟨(some 69), .buildAll 6 [(0, 1, (.c (.str [116, 117, 110, 110, 101, 108, 95, 105, 100]))), (1, 1, (.c (.int .i64 64))), (2, 1, (.c (.int .i64 8))), (3, 1, (.c (.kb true))), (4, 1, (.c (.int .i64 (-1)))), (5, 1, (.c (.imm (.int .u64) [])))], none⟩ : IOper) ::
     (⟨(some 70), .sliceAll (.int .u64) 1 [(0, 1, (.c (.int .u64 34525)))], none⟩ : IOper) ::
     (⟨(some 71), .buildAll 6 [(0, 1, (.c (.str [105, 112, 118, 54, 95, 101, 120, 116, 104, 100, 114]))), (1, 1, (.c (.int .i64 9))), (2, 1, (.c (.int .i64 2))), (3, 1, (.c (.kb true))), (4, 1, (.c (.int .i64 5))), (5, 1, (.t 70))], none⟩ : IOper) ::
     (⟨(some 72), .sliceAll (.cons .str (.cons (.int .i64) (.cons (.int .i64) (.cons .bool (.cons (.int .i64) (.cons (.sl (.int .u64)) .nil)))))) 40 [(0, 6, (.t 1)), (6, 6, (.t 2)), (12, 6, (.t 3)), (18, 6, (.t 4)), (24, 6, (.t 5)), (30, 6, (.t 6)), (36, 6, (.t 7)), (42, 6, (.t 8)), (48, 6, (.t 10)), (54, 6, (.t 12)), (60, 6, (.t 14)), (66, 6, (.t 16)), (72, 6, (.t 18)), (78, 6, (.t 20)), (84, 6, (.t 22)), (90, 6, (.t 24)), (96, 6, (.t 26)), (102, 6, (.t 28)), (108, 6, (.t 30)), (114, 6, (.t 32)), (120, 6, (.t 34)), (126, 6, (.t 36)), (132, 6, (.t 38)), (138, 6, (.t 40)), (144, 6, (.t 42)), (150, 6, (.t 44)), (156, 6, (.t 46)), (162, 6, (.t 48)), (168, 6, (.t 50)), (174, 6, (.t 52)), (180, 6, (.t 54)), (186, 6, (.t 56)), (192, 6, (.t 58)), (198, 6, (.t 60)), (204, 6, (.t 62)), (210, 6, (.t 64)), (216, 6, (.t 66)), (222, 6, (.t 68)), (228, 6, (.t 69)), (234, 6, (.t 71))], none⟩ : IOper) ::
     (⟨(some 0), .mov (.t 72), none⟩ : IOper) ::
     []))
   .ret))
def rd_r07_All : List RD := [.tmp 0 true (some (.cons .str (.cons (.int .i64) (.cons (.int .i64) (.cons .bool (.cons (.int .i64) (.cons (.sl (.int .u64)) .nil)))))))]
theorem ok_r07_All : fnOk Try.prog Try.f24 ir_r07_All rd_r07_All = true := by kernel_rfl
def ir_field_names : IR :=
 (.seq
  (.reg ((⟨(some 0), .box [.str [], .str [], .str [], .str [], .str [], .str [], .str [], .str [], .str [], .str [], .str [], .str [], .str [], .str [], .str [], .str [], .str [], .str [], .str [], .str [], .str [], .str [], .str [], .str [], .str [], .str [], .str [], .str [], .str [], .str [], .str [], .str [], .str [], .str [], .str [], .str [], .str [], .str [], .str [], .str []], none⟩ : IOper) ::
    []))
  (.seq
   (.reg ((⟨(some 1), .buildAll 40 [(0, 1, (.c (.str [105, 110, 95, 112, 111, 114, 116]))), (1, 1, (.c (.str [105, 110, 95, 112, 104, 121, 95, 112, 111, 114, 116]))), (2, 1, (.c (.str [109, 101, 116, 97, 100, 97, 116, 97]))), (3, 1, (.c (.str [101, 116, 104, 95, 100, 115, 116]))), (4, 1, (.c (.str [101, 116, 104, 95, 115, 114, 99]))), (5, 1, (.c (.str [101, 116, 104, 95, 116, 121, 112, 101]))), (6, 1, (.c (.str [118, 108, 97, 110, 95, 118, 105, 100]))), (7, 1, (.c (.str [118, 108, 97, 110, 95, 112, 99, 112]))), (8, 1, (.c (.str [105, 112, 95, 100, 115, 99, 112]))), (9, 1, (.c (.str [105, 112, 95, 101, 99, 110]))), (10, 1, (.c (.str [105, 112, 95, 112, 114, 111, 116, 111]))), (11, 1, (.c (.str [105, 112, 118, 52, 95, 115, 114, 99]))), (12, 1, (.c (.str [105, 112, 118, 52, 95, 100, 115, 116]))), (13, 1, (.c (.str [116, 99, 112, 95, 115, 114, 99]))), (14, 1, (.c (.str [116, 99, 112, 95, 100, 115, 116]))), (15, 1, (.c (.str [117, 100, 112, 95, 115, 114, 99]))), (16, 1, (.c (.str [117, 100, 112, 95, 100, 115, 116]))), (17, 1, (.c (.str [115, 99, 116, 112, 95, 115, 114, 99]))), (18, 1, (.c (.str [115, 99, 116, 112, 95, 100, 115, 116]))), (19, 1, (.c (.str [105, 99, 109, 112, 118, 52, 95, 116, 121, 112, 101]))), (20, 1, (.c (.str [105, 99, 109, 112, 118, 52, 95, 99, 111, 100, 101]))), (21, 1, (.c (.str [97, 114, 112, 95, 111, 112]))), (22, 1, (.c (.str [97, 114, 112, 95, 115, 112, 97]))), (23, 1, (.c (.str [97, 114, 112, 95, 116, 112, 97]))), (24, 1, (.c (.str [97, 114, 112, 95, 115, 104, 97]))), (25, 1, (.c (.str [97, 114, 112, 95, 116, 104, 97]))), (26, 1, (.c (.str [105, 112, 118, 54, 95, 115, 114, 99]))), (27, 1, (.c (.str [105, 112, 118, 54, 95, 100, 115, 116]))), (28, 1, (.c (.str [105, 112, 118, 54, 95, 102, 108, 97, 98, 101, 108]))), (29, 1, (.c (.str [105, 99, 109, 112, 118, 54, 95, 116, 121, 112, 101]))), (30, 1, (.c (.str [105, 99, 109, 112, 118, 54, 95, 99, 111, 100, 101]))), (31, 1, (.c (.str [105, 112, 118, 54, 95, 110, 100, 95, 116, 97, 114, 103, 101, 116]))), (32, 1, (.c (.str [105, 112, 118, 54, 95, 110, 100, 95, 115, 108, 108]))), (33, 1, (.c (.str [105, 112, 118, 54, 95, 110, 100, 95, 116, 108, 108]))), (34, 1, (.c (.str [109, 112, 108, 115, 95, 108, 97, 98, 101, 108]))), (35, 1, (.c (.str [109, 112, 108, 115, 95, 116, 99]))), (36, 1, (.c (.str [109, 112, 108, 115, 95, 98, 111, 115]))), (37, 1, (.c (.str [112, 98, 98, 95, 105, 115, 105, 100]))), (38, 1, (.c (.str [116, 117, 110, 110, 101, 108, 95, 105, 100]))), (39, 1, (.c (.str [105, 112, 118, 54, 95, 101, 120, 116, 104, 100, 114])))], none⟩ : IOper) ::
     (⟨none, .store 40 (.t 0) (.t 1), none⟩ : IOper) ::
     []))
   .ret))
def rd_field_names : List RD := [.cell 0 (some 40) true]
theorem ok_field_names : fnOk Try.prog Try.f25 ir_field_names rd_field_names = true := by kernel_rfl
def ir_slices_Index_string_string : IR :=
 (.seq
  (.reg ((⟨(some 4), .mov (.c (.int .i64 0)), none⟩ : IOper) ::
    []))
  (.seq
   (.seq
    (.reg ((⟨(some 6), .mov (.t 0), none⟩ : IOper) ::
      (⟨(some 7), .len (.t 6), none⟩ : IOper) ::
      (⟨(some 8), .mov (.c (.int .i64 0)), none⟩ : IOper) ::
      []))
    (.block 0
     (.loop
      (.seq
       (.reg ((⟨(some 9), .bin .lss (.t 8) (.t 7), none⟩ : IOper) ::
         []))
       (.seq
        (.cond (.t 9)
         .skip
         (.exit 0))
        (.seq
         (.block 1
          (.seq
           (.reg ((⟨(some 10), .mov (.t 8), none⟩ : IOper) ::
             (⟨(some 5), .mov (.t 10), none⟩ : IOper) ::
             []))
           (.seq
            (.reg ((⟨(some 11), .mov (.t 1), none⟩ : IOper) ::
              (⟨(some 12), .mov (.t 0), none⟩ : IOper) ::
              (⟨(some 13), .mov (.t 5), none⟩ : IOper) ::
              (⟨(some 14), .indexSl 1 (.t 12) (.t 13), none⟩ : IOper) ::
              (⟨(some 15), .load none (.t 14), none⟩ : IOper) ::
              (⟨(some 16), .bin .eql (.t 11) (.t 15), none⟩ : IOper) ::
              []))
            (.cond (.t 16)
             (.seq
              (.reg ((⟨(some 17), .mov (.t 5), none⟩ : IOper) ::
                (⟨(some 4), .mov (.t 17), none⟩ : IOper) ::
                []))
              .ret)
             .skip))))
         (.reg ((⟨(some 18), .bin .add (.t 8) (.c (.int .i64 1)), none⟩ : IOper) ::
           (⟨(some 8), .mov (.t 18), none⟩ : IOper) ::
           []))))))))
   (.seq
    (.reg ((⟨(some 4), .mov (.c (.int .i64 (-1))), none⟩ : IOper) ::
      []))
    .ret)))
def rd_slices_Index_string_string : List RD := [.tmp 4 true none]
theorem ok_slices_Index_string_string : fnOk Try.prog Try.f26 ir_slices_Index_string_string rd_slices_Index_string_string = true := by kernel_rfl
def ir_slices_Reverse_int_int : IR :=
 (.seq
  (.reg ((⟨(some 4), .mov (.t 0), none⟩ : IOper) ::
    (⟨(some 5), .len (.t 4), none⟩ : IOper) ::
    (⟨(some 6), .bin .sub (.t 5) (.c (.int .i64 1)), none⟩ : IOper) ::
    (⟨(some 2), .mov (.c (.int .i64 0)), none⟩ : IOper) ::
    (⟨(some 3), .mov (.t 6), none⟩ : IOper) ::
    []))
  (.block 0
   (.loop
    (.seq
     (.seq
      (.reg ((⟨(some 7), .mov (.t 2), none⟩ : IOper) ::
        (⟨(some 8), .mov (.t 3), none⟩ : IOper) ::
        (⟨(some 9), .bin .lss (.t 7) (.t 8), none⟩ : IOper) ::
        []))
      (.cond (.t 9)
       .skip
       (.exit 0)))
     (.seq
      (.block 1
       (.regD (((⟨(some 14), .mov (.t 0), none⟩, []) : IOper × List Nat) ::
         ((⟨(some 15), .mov (.t 2), none⟩, [0]) : IOper × List Nat) ::
         ((⟨(some 16), .mov (.t 0), none⟩, [0, 1]) : IOper × List Nat) ::
         ((⟨(some 17), .mov (.t 3), none⟩, [0, 1, 2]) : IOper × List Nat) ::
         ((⟨(some 18), .mov (.t 0), none⟩, [0, 1, 2, 3]) : IOper × List Nat) ::
         ((⟨(some 19), .mov (.t 3), none⟩, [0, 1, 2, 3, 4]) : IOper × List Nat) ::
         ((⟨(some 20), .indexSl 1 (.t 18) (.t 19), none⟩, [0, 1, 2, 3]) : IOper × List Nat) ::
         ((⟨(some 21), .load none (.t 20), none⟩, [0, 1, 2, 3]) : IOper × List Nat) ::
         ((⟨(some 22), .mov (.t 0), none⟩, [0, 1, 2, 3, 4, 5, 6, 7]) : IOper × List Nat) ::
         ((⟨(some 23), .mov (.t 2), none⟩, [0, 1, 2, 3, 4, 5, 6, 7, 8]) : IOper × List Nat) ::
         ((⟨(some 24), .indexSl 1 (.t 22) (.t 23), none⟩, [0, 1, 2, 3, 4, 5, 6, 7]) : IOper × List Nat) ::
         ((⟨(some 25), .load none (.t 24), none⟩, [0, 1, 2, 3, 4, 5, 6, 7]) : IOper × List Nat) ::
         ((⟨(some 26), .indexSl 1 (.t 14) (.t 15), none⟩, [2, 3]) : IOper × List Nat) ::
         ((⟨none, .store 1 (.t 26) (.t 21), none⟩, [2, 3]) : IOper × List Nat) ::
         ((⟨(some 27), .indexSl 1 (.t 16) (.t 17), none⟩, []) : IOper × List Nat) ::
         ((⟨none, .store 1 (.t 27) (.t 25), none⟩, []) : IOper × List Nat) ::
         [])))
      (.reg ((⟨(some 10), .mov (.t 2), none⟩ : IOper) ::
        (⟨(some 11), .bin .add (.t 10) (.c (.int .i64 1)), none⟩ : IOper) ::
        (⟨(some 12), .mov (.t 3), none⟩ : IOper) ::
        (⟨(some 13), .bin .sub (.t 12) (.c (.int .i64 1)), none⟩ : IOper) ::
        (⟨(some 2), .mov (.t 11), none⟩ : IOper) ::
        (⟨(some 3), .mov (.t 13), none⟩ : IOper) ::
        [])))))))
def rd_slices_Reverse_int_int : List RD := []
theorem ok_slices_Reverse_int_int : fnOk Try.prog Try.f27 ir_slices_Reverse_int_int rd_slices_Reverse_int_int = true := by kernel_rfl
def ir_field_deep : IR :=
 (.seq
  (.reg ((⟨(some 2), .mov (.c (.int .i64 0)), none⟩ : IOper) ::
    (⟨(some 3), .mov (.c (.imm (.int .u64) [])), none⟩ : IOper) ::
    []))
  (.seq
   (.seq
    (.reg ((⟨(some 4), .mov (.t 0), none⟩ : IOper) ::
      []))
    (.block 0
     (.seq
      (.seq
       (.reg ((⟨(some 6), .bin .eql (.t 4) (.c (.int .i64 13)), none⟩ : IOper) ::
         (⟨(some 5), .mov (.t 6), none⟩ : IOper) ::
         []))
       (.cond (.t 5)
        .skip
        (.reg ((⟨(some 7), .bin .eql (.t 4) (.c (.int .i64 14)), none⟩ : IOper) ::
          (⟨(some 5), .mov (.t 7), none⟩ : IOper) ::
          []))))
      (.cond (.t 5)
       (.seq
        (.reg ((⟨(some 8), .sliceAll (.int .u64) 1 [(0, 1, (.c (.int .u64 6)))], none⟩ : IOper) ::
          (⟨(some 2), .mov (.c (.int .i64 10)), none⟩ : IOper) ::
          (⟨(some 3), .mov (.t 8), none⟩ : IOper) ::
          []))
        .ret)
       (.seq
        (.seq
         (.reg ((⟨(some 10), .bin .eql (.t 4) (.c (.int .i64 15)), none⟩ : IOper) ::
           (⟨(some 9), .mov (.t 10), none⟩ : IOper) ::
           []))
         (.cond (.t 9)
          .skip
          (.reg ((⟨(some 11), .bin .eql (.t 4) (.c (.int .i64 16)), none⟩ : IOper) ::
            (⟨(some 9), .mov (.t 11), none⟩ : IOper) ::
            []))))
        (.cond (.t 9)
         (.seq
          (.reg ((⟨(some 12), .sliceAll (.int .u64) 1 [(0, 1, (.c (.int .u64 17)))], none⟩ : IOper) ::
            (⟨(some 2), .mov (.c (.int .i64 10)), none⟩ : IOper) ::
            (⟨(some 3), .mov (.t 12), none⟩ : IOper) ::
            []))
          .ret)
         (.seq
          (.seq
           (.reg ((⟨(some 14), .bin .eql (.t 4) (.c (.int .i64 17)), none⟩ : IOper) ::
             (⟨(some 13), .mov (.t 14), none⟩ : IOper) ::
             []))
           (.cond (.t 13)
            .skip
            (.reg ((⟨(some 15), .bin .eql (.t 4) (.c (.int .i64 18)), none⟩ : IOper) ::
              (⟨(some 13), .mov (.t 15), none⟩ : IOper) ::
              []))))
          (.cond (.t 13)
           (.seq
            (.reg ((⟨(some 16), .sliceAll (.int .u64) 1 [(0, 1, (.c (.int .u64 132)))], none⟩ : IOper) ::
              (⟨(some 2), .mov (.c (.int .i64 10)), none⟩ : IOper) ::
              (⟨(some 3), .mov (.t 16), none⟩ : IOper) ::
              []))
            .ret)
           (.seq
            (.seq
             (.reg ((⟨(some 18), .bin .eql (.t 4) (.c (.int .i64 19)), none⟩ : IOper) ::
               (⟨(some 17), .mov (.t 18), none⟩ : IOper) ::
               []))
             (.cond (.t 17)
              .skip
              (.reg ((⟨(some 19), .bin .eql (.t 4) (.c (.int .i64 20)), none⟩ : IOper) ::
                (⟨(some 17), .mov (.t 19), none⟩ : IOper) ::
                []))))
            (.cond (.t 17)
             (.seq
              (.reg ((⟨(some 20), .sliceAll (.int .u64) 1 [(0, 1, (.c (.int .u64 1)))], none⟩ : IOper) ::
                (⟨(some 2), .mov (.c (.int .i64 10)), none⟩ : IOper) ::
                (⟨(some 3), .mov (.t 20), none⟩ : IOper) ::
                []))
              .ret)
             (.seq
              (.seq
               (.reg ((⟨(some 22), .bin .eql (.t 4) (.c (.int .i64 29)), none⟩ : IOper) ::
                 (⟨(some 21), .mov (.t 22), none⟩ : IOper) ::
                 []))
               (.cond (.t 21)
                .skip
                (.reg ((⟨(some 23), .bin .eql (.t 4) (.c (.int .i64 30)), none⟩ : IOper) ::
                  (⟨(some 21), .mov (.t 23), none⟩ : IOper) ::
                  []))))
              (.cond (.t 21)
               (.seq
                (.reg ((⟨(some 24), .sliceAll (.int .u64) 1 [(0, 1, (.c (.int .u64 58)))], none⟩ : IOper) ::
                  (⟨(some 2), .mov (.c (.int .i64 10)), none⟩ : IOper) ::
                  (⟨(some 3), .mov (.t 24), none⟩ : IOper) ::
                  []))
                .ret)
               (.seq
                (.reg ((⟨(some 26), .bin .eql (.t 4) (.c (.int .i64 31)), none⟩ : IOper) ::
                  (⟨(some 25), .mov (.t 26), none⟩ : IOper) ::
                  []))
                (.cond (.t 25)
                 (.seq
                  (.reg ((⟨(some 27), .sliceAll (.int .u64) 2 [(0, 1, (.c (.int .u64 135))), (1, 1, (.c (.int .u64 136)))], none⟩ : IOper) ::
                    (⟨(some 2), .mov (.c (.int .i64 29)), none⟩ : IOper) ::
                    (⟨(some 3), .mov (.t 27), none⟩ : IOper) ::
                    []))
                  .ret)
                 (.seq
                  (.seq
                   (.reg ((⟨(some 29), .bin .eql (.t 4) (.c (.int .i64 32)), none⟩ : IOper) ::
                     (⟨(some 28), .mov (.t 29), none⟩ : IOper) ::
                     []))
                   (.cond (.t 28)
                    .skip
                    (.reg ((⟨(some 30), .bin .eql (.t 4) (.c (.int .i64 33)), none⟩ : IOper) ::
                      (⟨(some 28), .mov (.t 30), none⟩ : IOper) ::
                      []))))
                  (.cond (.t 28)
                   (.seq
                    (.reg ((⟨(some 31), .mov (.t 0), none⟩ : IOper) ::
                      (⟨(some 32), .conv .u64 (.t 31), none⟩ : IOper) ::
                      (⟨(some 33), .bin .add (.t 32) (.c (.int .u64 103)), none⟩ : IOper) ::
                      (⟨(some 34), .sliceAll (.int .u64) 1 [(0, 1, (.t 33))], none⟩ : IOper) ::
                      (⟨(some 2), .mov (.c (.int .i64 29)), none⟩ : IOper) ::
                      (⟨(some 3), .mov (.t 34), none⟩ : IOper) ::
                      []))
                    .ret)
                   .skip))))))))))))))))
   (.seq
    (.reg ((⟨(some 2), .mov (.c (.int .i64 (-1))), none⟩ : IOper) ::
      (⟨(some 3), .mov (.c (.imm (.int .u64) [])), none⟩ : IOper) ::
      []))
    .ret)))
def rd_field_deep : List RD := [.tmp 2 true none, .tmp 3 true (some (.int .u64))]
theorem ok_field_deep : fnOk Try.prog Try.f28 ir_field_deep rd_field_deep = true := by kernel_rfl
end Go.Eng
