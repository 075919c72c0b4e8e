/- The functions of the given program, in the small language. No condition. -/
import Derived.Test.YtcicjbcgnkbffaaProg
import Derived.Test.YtcicjbcgnkbffaaESum
import Derived.KernelRfl
namespace Go.Eng
open Go.Proofs
def ir_l07_FieldNeeds : IR :=
 (.seq
  (.reg ((⟨(some 2), .mov (.c (.kb false)), none⟩ : IOper) ::
    []))
  (.seq
   (.reg ((⟨(some 15), .mov (.t 0), none⟩ : IOper) ::
     (⟨(some 16), .call false (.f 9) [(.t 15)], none⟩ : IOper) ::
     (⟨(some 14), .mov (.t 16), none⟩ : IOper) ::
     (⟨(some 17), .extract (.t 14) 0, none⟩ : IOper) ::
     (⟨(some 18), .extract (.t 14) 1, none⟩ : IOper) ::
     (⟨(some 3), .box [.int .i64 0, .int .i64 0, .kb false, .int .i64 0, .imm (.int .u64) []], none⟩ : IOper) ::
     (⟨none, .store 5 (.t 3) (.t 17), none⟩ : IOper) ::
     (⟨(some 4), .mov (.t 18), none⟩ : IOper) ::
     []))
   (.seq
    (.seq
     (.reg ((⟨(some 19), .mov (.t 4), none⟩ : IOper) ::
       (⟨(some 20), .un .not (.t 19), none⟩ : IOper) ::
       []))
     (.cond (.t 20)
      (.seq
       (.reg ((⟨(some 21), .mov (.t 0), none⟩ : IOper) ::
         (⟨(some 22), .call false (.f 13) [(.t 21)], none⟩ : IOper) ::
         (⟨(some 23), .len (.t 22), none⟩ : IOper) ::
         (⟨(some 24), .bin .eql (.t 23) (.c (.int .i64 0)), none⟩ : IOper) ::
         (⟨(some 25), .mov (.t 24), none⟩ : IOper) ::
         (⟨(some 26), .mov (.t 0), (some (25, true))⟩ : IOper) ::
         (⟨(some 27), .call false (.f 16) [(.t 26)], (some (25, true))⟩ : IOper) ::
         (⟨(some 28), .bin .eql (.t 27) (.c (.str [])), (some (25, true))⟩ : IOper) ::
         (⟨(some 29), .pick (.t 25) (.t 28) (.c (.kb false)), none⟩ : IOper) ::
         (⟨(some 30), .mov (.t 29), none⟩ : IOper) ::
         (⟨(some 31), .mov (.t 0), (some (30, true))⟩ : IOper) ::
         (⟨(some 32), .call false (.f 17) [(.t 31)], (some (30, true))⟩ : IOper) ::
         (⟨(some 33), .un .not (.t 32), (some (30, true))⟩ : IOper) ::
         (⟨(some 34), .pick (.t 30) (.t 33) (.c (.kb false)), none⟩ : IOper) ::
         (⟨(some 35), .mov (.t 34), none⟩ : IOper) ::
         (⟨(some 36), .call false (.f 6) [], (some (35, true))⟩ : IOper) ::
         (⟨(some 37), .pick (.t 35) (.t 36) (.c (.kb false)), none⟩ : IOper) ::
         (⟨(some 2), .mov (.t 37), none⟩ : IOper) ::
         []))
       .ret)
      .skip))
    (.seq
     (.reg ((⟨(some 38), .mov (.t 0), none⟩ : IOper) ::
       (⟨(some 39), .call false (.f 13) [(.t 38)], none⟩ : IOper) ::
       (⟨(some 5), .mov (.t 39), none⟩ : IOper) ::
       []))
     (.seq
      (.seq
       (.reg ((⟨(some 6), .mov (.c (.int .i64 0)), none⟩ : IOper) ::
         []))
       (.block 0
        (.loop
         (.seq
          (.seq
           (.reg ((⟨(some 40), .mov (.t 6), none⟩ : IOper) ::
             (⟨(some 41), .mov (.t 5), none⟩ : IOper) ::
             (⟨(some 42), .len (.t 41), none⟩ : IOper) ::
             (⟨(some 43), .bin .lss (.t 40) (.t 42), none⟩ : IOper) ::
             []))
           (.cond (.t 43)
            .skip
            (.exit 0)))
          (.seq
           (.block 1
            (.seq
             (.reg ((⟨(some 47), .mov (.t 5), none⟩ : IOper) ::
               (⟨(some 48), .mov (.t 6), none⟩ : IOper) ::
               (⟨(some 49), .indexSl 1 (.t 47) (.t 48), none⟩ : IOper) ::
               (⟨(some 50), .load none (.t 49), none⟩ : IOper) ::
               (⟨(some 51), .call false (.f 9) [(.t 50)], none⟩ : IOper) ::
               (⟨(some 46), .mov (.t 51), none⟩ : IOper) ::
               (⟨(some 52), .extract (.t 46) 0, none⟩ : IOper) ::
               (⟨(some 53), .extract (.t 46) 1, none⟩ : IOper) ::
               (⟨(some 7), .box [.int .i64 0, .int .i64 0, .kb false, .int .i64 0, .imm (.int .u64) []], none⟩ : IOper) ::
               (⟨none, .store 5 (.t 7) (.t 52), none⟩ : IOper) ::
               (⟨(some 8), .mov (.t 53), none⟩ : IOper) ::
               []))
             (.seq
              (.regD (((⟨(some 54), .mov (.t 8), none⟩, []) : IOper × List Nat) ::
                ((⟨(some 55), .un .not (.t 54), none⟩, []) : IOper × List Nat) ::
                ((⟨(some 56), .mov (.t 55), none⟩, []) : IOper × List Nat) ::
                ((⟨(some 57), .mov (.t 5), (some (56, false))⟩, []) : IOper × List Nat) ::
                ((⟨(some 58), .mov (.t 6), (some (56, false))⟩, [3]) : IOper × List Nat) ::
                ((⟨(some 59), .indexSl 1 (.t 57) (.t 58), (some (56, false))⟩, []) : IOper × List Nat) ::
                ((⟨(some 60), .load none (.t 59), (some (56, false))⟩, []) : IOper × List Nat) ::
                ((⟨(some 61), .mov (.t 0), (some (56, false))⟩, [3, 4, 5, 6]) : IOper × List Nat) ::
                ((⟨(some 62), .bin .geq (.t 60) (.t 61), (some (56, false))⟩, []) : IOper × List Nat) ::
                ((⟨(some 63), .pick (.t 56) (.c (.kb true)) (.t 62), none⟩, []) : IOper × List Nat) ::
                ((⟨(some 64), .mov (.t 63), none⟩, []) : IOper × List Nat) ::
                ((⟨(some 65), .mov (.t 6), (some (64, false))⟩, []) : IOper × List Nat) ::
                ((⟨(some 66), .bin .eql (.t 65) (.c (.int .i64 0)), (some (64, false))⟩, []) : IOper × List Nat) ::
                ((⟨(some 67), .mov (.t 66), (some (64, false))⟩, []) : IOper × List Nat) ::
                ((⟨(some 68), .fieldAddr 3 (.t 7), (some (67, true))⟩, []) : IOper × List Nat) ::
                ((⟨(some 69), .load none (.t 68), (some (67, true))⟩, []) : IOper × List Nat) ::
                ((⟨(some 70), .bin .geq (.t 69) (.c (.int .i64 0)), (some (67, true))⟩, []) : IOper × List Nat) ::
                ((⟨(some 71), .pick (.t 67) (.t 70) (.c (.kb false)), (some (64, false))⟩, []) : IOper × List Nat) ::
                ((⟨(some 72), .pick (.t 64) (.c (.kb true)) (.t 71), none⟩, []) : IOper × List Nat) ::
                ((⟨(some 73), .mov (.t 72), none⟩, []) : IOper × List Nat) ::
                ((⟨(some 74), .mov (.t 6), (some (73, false))⟩, []) : IOper × List Nat) ::
                ((⟨(some 75), .bin .gtr (.t 74) (.c (.int .i64 0)), (some (73, false))⟩, []) : IOper × List Nat) ::
                ((⟨(some 76), .mov (.t 75), (some (73, false))⟩, []) : IOper × List Nat) ::
                ((⟨(some 77), .fieldAddr 3 (.t 7), (some (76, true))⟩, []) : IOper × List Nat) ::
                ((⟨(some 78), .load none (.t 77), (some (76, true))⟩, []) : IOper × List Nat) ::
                ((⟨(some 79), .mov (.t 5), (some (76, true))⟩, [23, 24]) : IOper × List Nat) ::
                ((⟨(some 80), .mov (.t 6), (some (76, true))⟩, [23, 24, 25]) : IOper × List Nat) ::
                ((⟨(some 81), .bin .sub (.t 80) (.c (.int .i64 1)), (some (76, true))⟩, [23, 24, 25]) : IOper × List Nat) ::
                ((⟨(some 82), .indexSl 1 (.t 79) (.t 81), (some (76, true))⟩, [23, 24]) : IOper × List Nat) ::
                ((⟨(some 83), .load none (.t 82), (some (76, true))⟩, [23, 24]) : IOper × List Nat) ::
                ((⟨(some 84), .bin .neq (.t 78) (.t 83), (some (76, true))⟩, []) : IOper × List Nat) ::
                ((⟨(some 85), .pick (.t 76) (.t 84) (.c (.kb false)), (some (73, false))⟩, []) : IOper × List Nat) ::
                ((⟨(some 86), .pick (.t 73) (.c (.kb true)) (.t 85), none⟩, []) : IOper × List Nat) ::
                []))
              (.cond (.t 86)
               (.seq
                (.reg ((⟨(some 2), .mov (.c (.kb false)), none⟩ : IOper) ::
                  []))
                .ret)
               .skip))))
           (.reg ((⟨(some 44), .mov (.t 6), none⟩ : IOper) ::
             (⟨(some 45), .bin .add (.t 44) (.c (.int .i64 1)), none⟩ : IOper) ::
             (⟨(some 6), .mov (.t 45), none⟩ : IOper) ::
             [])))))))
      (.seq
       (.seq
        (.regD (((⟨(some 87), .mov (.t 5), none⟩, []) : IOper × List Nat) ::
          ((⟨(some 88), .len (.t 87), none⟩, []) : IOper × List Nat) ::
          ((⟨(some 89), .bin .gtr (.t 88) (.c (.int .i64 0)), none⟩, []) : IOper × List Nat) ::
          ((⟨(some 90), .fieldAddr 3 (.t 3), none⟩, [0, 1, 2]) : IOper × List Nat) ::
          ((⟨(some 91), .load none (.t 90), none⟩, [0, 1, 2]) : IOper × List Nat) ::
          ((⟨(some 92), .bin .geq (.t 91) (.c (.int .i64 0)), none⟩, [0, 1, 2]) : IOper × List Nat) ::
          ((⟨(some 93), .eqb true (.t 89) (.t 92), none⟩, []) : IOper × List Nat) ::
          ((⟨(some 94), .mov (.t 93), none⟩, []) : IOper × List Nat) ::
          ((⟨(some 95), .mov (.t 5), (some (94, false))⟩, []) : IOper × List Nat) ::
          ((⟨(some 96), .len (.t 95), (some (94, false))⟩, []) : IOper × List Nat) ::
          ((⟨(some 97), .bin .gtr (.t 96) (.c (.int .i64 0)), (some (94, false))⟩, []) : IOper × List Nat) ::
          ((⟨(some 98), .mov (.t 97), (some (94, false))⟩, []) : IOper × List Nat) ::
          ((⟨(some 99), .mov (.t 5), (some (98, true))⟩, []) : IOper × List Nat) ::
          ((⟨(some 100), .mov (.t 5), (some (98, true))⟩, [12]) : IOper × List Nat) ::
          ((⟨(some 101), .len (.t 100), (some (98, true))⟩, [12]) : IOper × List Nat) ::
          ((⟨(some 102), .bin .sub (.t 101) (.c (.int .i64 1)), (some (98, true))⟩, [12]) : IOper × List Nat) ::
          ((⟨(some 103), .indexSl 1 (.t 99) (.t 102), (some (98, true))⟩, []) : IOper × List Nat) ::
          ((⟨(some 104), .load none (.t 103), (some (98, true))⟩, []) : IOper × List Nat) ::
          ((⟨(some 105), .fieldAddr 3 (.t 3), (some (98, true))⟩, [12, 13, 14, 15, 16, 17]) : IOper × List Nat) ::
          ((⟨(some 106), .load none (.t 105), (some (98, true))⟩, [12, 13, 14, 15, 16, 17]) : IOper × List Nat) ::
          ((⟨(some 107), .bin .neq (.t 104) (.t 106), (some (98, true))⟩, []) : IOper × List Nat) ::
          ((⟨(some 108), .pick (.t 98) (.t 107) (.c (.kb false)), (some (94, false))⟩, []) : IOper × List Nat) ::
          ((⟨(some 109), .pick (.t 94) (.c (.kb true)) (.t 108), none⟩, []) : IOper × List Nat) ::
          ((⟨(some 110), .mov (.t 109), none⟩, []) : IOper × List Nat) ::
          ((⟨(some 111), .mov (.t 5), (some (110, false))⟩, []) : IOper × List Nat) ::
          ((⟨(some 112), .len (.t 111), (some (110, false))⟩, []) : IOper × List Nat) ::
          ((⟨(some 113), .bin .gtr (.t 112) (.c (.int .i64 3)), (some (110, false))⟩, []) : IOper × List Nat) ::
          ((⟨(some 114), .pick (.t 110) (.c (.kb true)) (.t 113), none⟩, []) : IOper × List Nat) ::
          []))
        (.cond (.t 114)
         (.seq
          (.reg ((⟨(some 2), .mov (.c (.kb false)), none⟩ : IOper) ::
            []))
          .ret)
         .skip))
       (.seq
        (.seq
         (.reg ((⟨(some 9), .mov (.c (.int .i64 0)), none⟩ : IOper) ::
           []))
         (.block 2
          (.loop
           (.seq
            (.seq
             (.reg ((⟨(some 115), .mov (.t 9), none⟩ : IOper) ::
               (⟨(some 116), .fieldAddr 4 (.t 3), none⟩ : IOper) ::
               (⟨(some 117), .load none (.t 116), none⟩ : IOper) ::
               (⟨(some 118), .len (.t 117), none⟩ : IOper) ::
               (⟨(some 119), .bin .lss (.t 115) (.t 118), none⟩ : IOper) ::
               []))
             (.cond (.t 119)
              .skip
              (.exit 2)))
            (.seq
             (.block 3
              (.seq
               (.reg ((⟨(some 123), .fieldAddr 3 (.t 3), none⟩ : IOper) ::
                 (⟨(some 124), .load none (.t 123), none⟩ : IOper) ::
                 (⟨(some 125), .call false (.f 9) [(.t 124)], none⟩ : IOper) ::
                 (⟨(some 122), .mov (.t 125), none⟩ : IOper) ::
                 (⟨(some 126), .extract (.t 122) 0, none⟩ : IOper) ::
                 (⟨(some 127), .extract (.t 122) 1, none⟩ : IOper) ::
                 (⟨(some 10), .box [.int .i64 0, .int .i64 0, .kb false, .int .i64 0, .imm (.int .u64) []], none⟩ : IOper) ::
                 (⟨none, .store 5 (.t 10) (.t 126), none⟩ : IOper) ::
                 (⟨(some 11), .mov (.t 127), none⟩ : IOper) ::
                 []))
               (.seq
                (.regD (((⟨(some 128), .fieldAddr 1 (.t 10), none⟩, []) : IOper × List Nat) ::
                  ((⟨(some 129), .load none (.t 128), none⟩, []) : IOper × List Nat) ::
                  ((⟨(some 130), .bin .gtr (.t 129) (.c (.int .i64 2)), none⟩, []) : IOper × List Nat) ::
                  ((⟨(some 131), .mov (.t 130), none⟩, []) : IOper × List Nat) ::
                  ((⟨(some 132), .fieldAddr 4 (.t 3), (some (131, false))⟩, []) : IOper × List Nat) ::
                  ((⟨(some 133), .load none (.t 132), (some (131, false))⟩, []) : IOper × List Nat) ::
                  ((⟨(some 134), .mov (.t 9), (some (131, false))⟩, [4, 5]) : IOper × List Nat) ::
                  ((⟨(some 135), .indexSl 1 (.t 133) (.t 134), (some (131, false))⟩, []) : IOper × List Nat) ::
                  ((⟨(some 136), .load none (.t 135), (some (131, false))⟩, []) : IOper × List Nat) ::
                  ((⟨(some 137), .fieldAddr 0 (.t 10), (some (131, false))⟩, [4, 5, 6, 7, 8]) : IOper × List Nat) ::
                  ((⟨(some 138), .load none (.t 137), (some (131, false))⟩, [4, 5, 6, 7, 8]) : IOper × List Nat) ::
                  ((⟨(some 139), .bin .shl (.c (.int .u64 1)) (.t 138), (some (131, false))⟩, [4, 5, 6, 7, 8]) : IOper × List Nat) ::
                  ((⟨(some 140), .bin .geq (.t 136) (.t 139), (some (131, false))⟩, []) : IOper × List Nat) ::
                  ((⟨(some 141), .pick (.t 131) (.c (.kb true)) (.t 140), none⟩, []) : IOper × List Nat) ::
                  ((⟨(some 142), .mov (.t 141), none⟩, []) : IOper × List Nat) ::
                  ((⟨(some 143), .fieldAddr 4 (.t 3), (some (142, false))⟩, []) : IOper × List Nat) ::
                  ((⟨(some 144), .load none (.t 143), (some (142, false))⟩, []) : IOper × List Nat) ::
                  ((⟨(some 145), .mov (.t 9), (some (142, false))⟩, [15, 16]) : IOper × List Nat) ::
                  ((⟨(some 146), .indexSl 1 (.t 144) (.t 145), (some (142, false))⟩, []) : IOper × List Nat) ::
                  ((⟨(some 147), .load none (.t 146), (some (142, false))⟩, []) : IOper × List Nat) ::
                  ((⟨(some 148), .bin .eql (.t 147) (.c (.int .u64 0)), (some (142, false))⟩, []) : IOper × List Nat) ::
                  ((⟨(some 149), .pick (.t 142) (.c (.kb true)) (.t 148), none⟩, []) : IOper × List Nat) ::
                  []))
                (.cond (.t 149)
                 (.seq
                  (.reg ((⟨(some 2), .mov (.c (.kb false)), none⟩ : IOper) ::
                    []))
                  .ret)
                 .skip))))
             (.reg ((⟨(some 120), .mov (.t 9), none⟩ : IOper) ::
               (⟨(some 121), .bin .add (.t 120) (.c (.int .i64 1)), none⟩ : IOper) ::
               (⟨(some 9), .mov (.t 121), none⟩ : IOper) ::
               [])))))))
        (.seq
         (.reg ((⟨(some 151), .mov (.t 0), none⟩ : IOper) ::
           (⟨(some 152), .call false (.f 16) [(.t 151)], none⟩ : IOper) ::
           (⟨(some 153), .call false (.f 11) [(.t 152)], none⟩ : IOper) ::
           (⟨(some 150), .mov (.t 153), none⟩ : IOper) ::
           (⟨(some 154), .extract (.t 150) 0, none⟩ : IOper) ::
           (⟨(some 155), .extract (.t 150) 1, none⟩ : IOper) ::
           (⟨(some 12), .mov (.t 154), none⟩ : IOper) ::
           (⟨(some 13), .mov (.t 155), none⟩ : IOper) ::
           []))
         (.seq
          (.reg ((⟨(some 156), .mov (.t 13), none⟩ : IOper) ::
            (⟨(some 157), .mov (.t 156), none⟩ : IOper) ::
            (⟨(some 158), .mov (.t 12), (some (157, true))⟩ : IOper) ::
            (⟨(some 159), .mov (.t 0), (some (157, true))⟩ : IOper) ::
            (⟨(some 160), .bin .eql (.t 158) (.t 159), (some (157, true))⟩ : IOper) ::
            (⟨(some 161), .pick (.t 157) (.t 160) (.c (.kb false)), none⟩ : IOper) ::
            (⟨(some 162), .mov (.t 161), none⟩ : IOper) ::
            (⟨(some 163), .fieldAddr 0 (.t 3), (some (162, true))⟩ : IOper) ::
            (⟨(some 164), .load none (.t 163), (some (162, true))⟩ : IOper) ::
            (⟨(some 165), .fieldAddr 1 (.t 3), (some (162, true))⟩ : IOper) ::
            (⟨(some 166), .load none (.t 165), (some (162, true))⟩ : IOper) ::
            (⟨(some 167), .bin .mul (.c (.int .i64 8)) (.t 166), (some (162, true))⟩ : IOper) ::
            (⟨(some 168), .bin .sub (.t 167) (.c (.int .i64 16)), (some (162, true))⟩ : IOper) ::
            (⟨(some 169), .bin .gtr (.t 164) (.t 168), (some (162, true))⟩ : IOper) ::
            (⟨(some 170), .pick (.t 162) (.t 169) (.c (.kb false)), none⟩ : IOper) ::
            (⟨(some 171), .mov (.t 170), none⟩ : IOper) ::
            (⟨(some 172), .fieldAddr 0 (.t 3), (some (171, true))⟩ : IOper) ::
            (⟨(some 173), .load none (.t 172), (some (171, true))⟩ : IOper) ::
            (⟨(some 174), .fieldAddr 1 (.t 3), (some (171, true))⟩ : IOper) ::
            (⟨(some 175), .load none (.t 174), (some (171, true))⟩ : IOper) ::
            (⟨(some 176), .bin .mul (.c (.int .i64 8)) (.t 175), (some (171, true))⟩ : IOper) ::
            (⟨(some 177), .bin .leq (.t 173) (.t 176), (some (171, true))⟩ : IOper) ::
            (⟨(some 178), .pick (.t 171) (.t 177) (.c (.kb false)), none⟩ : IOper) ::
            (⟨(some 179), .mov (.t 178), none⟩ : IOper) ::
            (⟨(some 180), .call false (.f 6) [], (some (179, true))⟩ : IOper) ::
            (⟨(some 181), .pick (.t 179) (.t 180) (.c (.kb false)), none⟩ : IOper) ::
            (⟨(some 2), .mov (.t 181), none⟩ : IOper) ::
            []))
          .ret)))))))))
def rd_l07_FieldNeeds : List RD := [.tmp 2 true none]
theorem ok_l07_FieldNeeds : fnOk Try.prog Try.f5 ir_l07_FieldNeeds rd_l07_FieldNeeds = true := by kernel_rfl
def ir_l07_sure : IR :=
 (.seq
  (.reg ((⟨(some 0), .mov (.c (.kb false)), none⟩ : IOper) ::
    []))
  (.seq
   (.reg ((⟨(some 6), .call false (.f 13) [(.c (.int .i64 31))], none⟩ : IOper) ::
     (⟨(some 1), .mov (.t 6), none⟩ : IOper) ::
     []))
   (.seq
    (.reg ((⟨(some 8), .call false (.f 11) [(.c (.str [105, 112, 118, 54, 95, 110, 100, 95, 116, 108, 108]))], none⟩ : IOper) ::
      (⟨(some 7), .mov (.t 8), none⟩ : IOper) ::
      (⟨(some 9), .extract (.t 7) 0, none⟩ : IOper) ::
      (⟨(some 10), .extract (.t 7) 1, none⟩ : IOper) ::
      (⟨(some 2), .mov (.t 9), none⟩ : IOper) ::
      (⟨(some 3), .mov (.t 10), none⟩ : IOper) ::
      []))
    (.seq
     (.reg ((⟨(some 12), .call false (.f 9) [(.c (.int .i64 33))], none⟩ : IOper) ::
       (⟨(some 11), .mov (.t 12), none⟩ : IOper) ::
       (⟨(some 13), .extract (.t 11) 0, none⟩ : IOper) ::
       (⟨(some 14), .extract (.t 11) 1, none⟩ : IOper) ::
       (⟨(some 4), .box [.int .i64 0, .int .i64 0, .kb false, .int .i64 0, .imm (.int .u64) []], none⟩ : IOper) ::
       (⟨none, .store 5 (.t 4) (.t 13), none⟩ : IOper) ::
       (⟨(some 5), .mov (.t 14), none⟩ : IOper) ::
       []))
     (.seq
      (.reg ((⟨(some 15), .mov (.t 1), none⟩ : IOper) ::
        (⟨(some 16), .len (.t 15), none⟩ : IOper) ::
        (⟨(some 17), .bin .eql (.t 16) (.c (.int .i64 3)), none⟩ : IOper) ::
        (⟨(some 18), .mov (.t 17), none⟩ : IOper) ::
        (⟨(some 19), .mov (.t 1), (some (18, true))⟩ : IOper) ::
        (⟨(some 20), .indexSl 1 (.t 19) (.c (.int .i64 0)), (some (18, true))⟩ : IOper) ::
        (⟨(some 21), .load none (.t 20), (some (18, true))⟩ : IOper) ::
        (⟨(some 22), .bin .eql (.t 21) (.c (.int .i64 5)), (some (18, true))⟩ : IOper) ::
        (⟨(some 23), .pick (.t 18) (.t 22) (.c (.kb false)), none⟩ : IOper) ::
        (⟨(some 24), .mov (.t 23), none⟩ : IOper) ::
        (⟨(some 25), .mov (.t 1), (some (24, true))⟩ : IOper) ::
        (⟨(some 26), .indexSl 1 (.t 25) (.c (.int .i64 1)), (some (24, true))⟩ : IOper) ::
        (⟨(some 27), .load none (.t 26), (some (24, true))⟩ : IOper) ::
        (⟨(some 28), .bin .eql (.t 27) (.c (.int .i64 10)), (some (24, true))⟩ : IOper) ::
        (⟨(some 29), .pick (.t 24) (.t 28) (.c (.kb false)), none⟩ : IOper) ::
        (⟨(some 30), .mov (.t 29), none⟩ : IOper) ::
        (⟨(some 31), .mov (.t 1), (some (30, true))⟩ : IOper) ::
        (⟨(some 32), .indexSl 1 (.t 31) (.c (.int .i64 2)), (some (30, true))⟩ : IOper) ::
        (⟨(some 33), .load none (.t 32), (some (30, true))⟩ : IOper) ::
        (⟨(some 34), .bin .eql (.t 33) (.c (.int .i64 29)), (some (30, true))⟩ : IOper) ::
        (⟨(some 35), .pick (.t 30) (.t 34) (.c (.kb false)), none⟩ : IOper) ::
        (⟨(some 36), .mov (.t 35), none⟩ : IOper) ::
        (⟨(some 37), .mov (.t 3), (some (36, true))⟩ : IOper) ::
        (⟨(some 38), .pick (.t 36) (.t 37) (.c (.kb false)), none⟩ : IOper) ::
        (⟨(some 39), .mov (.t 38), none⟩ : IOper) ::
        (⟨(some 40), .mov (.t 2), (some (39, true))⟩ : IOper) ::
        (⟨(some 41), .bin .eql (.t 40) (.c (.int .i64 33)), (some (39, true))⟩ : IOper) ::
        (⟨(some 42), .pick (.t 39) (.t 41) (.c (.kb false)), none⟩ : IOper) ::
        (⟨(some 43), .mov (.t 42), none⟩ : IOper) ::
        (⟨(some 44), .mov (.t 5), (some (43, true))⟩ : IOper) ::
        (⟨(some 45), .pick (.t 43) (.t 44) (.c (.kb false)), none⟩ : IOper) ::
        (⟨(some 46), .mov (.t 45), none⟩ : IOper) ::
        (⟨(some 47), .fieldAddr 3 (.t 4), (some (46, true))⟩ : IOper) ::
        (⟨(some 48), .load none (.t 47), (some (46, true))⟩ : IOper) ::
        (⟨(some 49), .bin .eql (.t 48) (.c (.int .i64 29)), (some (46, true))⟩ : IOper) ::
        (⟨(some 50), .pick (.t 46) (.t 49) (.c (.kb false)), none⟩ : IOper) ::
        (⟨(some 51), .mov (.t 50), none⟩ : IOper) ::
        (⟨(some 52), .fieldAddr 4 (.t 4), (some (51, true))⟩ : IOper) ::
        (⟨(some 53), .load none (.t 52), (some (51, true))⟩ : IOper) ::
        (⟨(some 54), .len (.t 53), (some (51, true))⟩ : IOper) ::
        (⟨(some 55), .bin .eql (.t 54) (.c (.int .i64 1)), (some (51, true))⟩ : IOper) ::
        (⟨(some 56), .pick (.t 51) (.t 55) (.c (.kb false)), none⟩ : IOper) ::
        (⟨(some 57), .mov (.t 56), none⟩ : IOper) ::
        (⟨(some 58), .fieldAddr 4 (.t 4), (some (57, true))⟩ : IOper) ::
        (⟨(some 59), .load none (.t 58), (some (57, true))⟩ : IOper) ::
        (⟨(some 60), .indexSl 1 (.t 59) (.c (.int .i64 0)), (some (57, true))⟩ : IOper) ::
        (⟨(some 61), .load none (.t 60), (some (57, true))⟩ : IOper) ::
        (⟨(some 62), .bin .eql (.t 61) (.c (.int .u64 136)), (some (57, true))⟩ : IOper) ::
        (⟨(some 63), .pick (.t 57) (.t 62) (.c (.kb false)), none⟩ : IOper) ::
        (⟨(some 64), .mov (.t 63), none⟩ : IOper) ::
        (⟨(some 65), .sliceAll (.int .u8) 1 [(0, 1, (.c (.int .u8 8)))], (some (64, true))⟩ : IOper) ::
        (⟨(some 66), .call false (.f 7) [(.c (.int .i64 7)), (.t 65)], (some (64, true))⟩ : IOper) ::
        (⟨(some 67), .un .not (.t 66), (some (64, true))⟩ : IOper) ::
        (⟨(some 68), .pick (.t 64) (.t 67) (.c (.kb false)), none⟩ : IOper) ::
        (⟨(some 69), .mov (.t 68), none⟩ : IOper) ::
        (⟨(some 70), .sliceAll (.int .u8) 1 [(0, 1, (.c (.int .u8 7)))], (some (69, true))⟩ : IOper) ::
        (⟨(some 71), .call false (.f 7) [(.c (.int .i64 7)), (.t 70)], (some (69, true))⟩ : IOper) ::
        (⟨(some 72), .pick (.t 69) (.t 71) (.c (.kb false)), none⟩ : IOper) ::
        (⟨(some 0), .mov (.t 72), none⟩ : IOper) ::
        []))
      .ret)))))
def rd_l07_sure : List RD := [.tmp 0 true none]
theorem ok_l07_sure : fnOk Try.prog Try.f6 ir_l07_sure rd_l07_sure = true := by kernel_rfl
def ir_field_Fits : IR :=
 (.seq
  (.reg ((⟨(some 4), .mov (.c (.kb false)), none⟩ : IOper) ::
    []))
  (.seq
   (.seq
    (.reg ((⟨(some 9), .mov (.t 0), none⟩ : IOper) ::
      (⟨(some 10), .call false (.f 19) [(.t 9)], none⟩ : IOper) ::
      (⟨(some 11), .un .not (.t 10), none⟩ : IOper) ::
      (⟨(some 12), .mov (.t 11), none⟩ : IOper) ::
      (⟨(some 13), .mov (.t 1), (some (12, false))⟩ : IOper) ::
      (⟨(some 14), .len (.t 13), (some (12, false))⟩ : IOper) ::
      (⟨(some 15), .mov (.t 0), (some (12, false))⟩ : IOper) ::
      (⟨(some 16), .call false (.f 20) [(.t 15)], (some (12, false))⟩ : IOper) ::
      (⟨(some 17), .bin .neq (.t 14) (.t 16), (some (12, false))⟩ : IOper) ::
      (⟨(some 18), .pick (.t 12) (.c (.kb true)) (.t 17), none⟩ : IOper) ::
      []))
    (.cond (.t 18)
     (.seq
      (.reg ((⟨(some 4), .mov (.c (.kb false)), none⟩ : IOper) ::
        []))
      .ret)
     .skip))
   (.seq
    (.reg ((⟨(some 19), .mov (.t 0), none⟩ : IOper) ::
      (⟨(some 20), .call false (.f 20) [(.t 19)], none⟩ : IOper) ::
      (⟨(some 21), .bin .mul (.c (.int .i64 8)) (.t 20), none⟩ : IOper) ::
      (⟨(some 22), .mov (.t 0), none⟩ : IOper) ::
      (⟨(some 23), .call false (.f 21) [(.t 22)], none⟩ : IOper) ::
      (⟨(some 24), .bin .sub (.t 21) (.t 23), none⟩ : IOper) ::
      (⟨(some 5), .mov (.t 24), none⟩ : IOper) ::
      []))
    (.seq
     (.seq
      (.reg ((⟨(some 25), .mov (.t 1), none⟩ : IOper) ::
        (⟨(some 26), .len (.t 25), none⟩ : IOper) ::
        (⟨(some 27), .mov (.c (.int .i64 0)), none⟩ : IOper) ::
        []))
      (.block 0
       (.loop
        (.seq
         (.reg ((⟨(some 28), .bin .lss (.t 27) (.t 26), none⟩ : IOper) ::
           []))
         (.seq
          (.cond (.t 28)
           .skip
           (.exit 0))
          (.seq
           (.block 1
            (.seq
             (.reg ((⟨(some 29), .indexSl 1 (.t 25) (.t 27), none⟩ : IOper) ::
               (⟨(some 30), .load none (.t 29), none⟩ : IOper) ::
               (⟨(some 7), .mov (.t 30), none⟩ : IOper) ::
               []))
             (.seq
              (.reg ((⟨(some 31), .mov (.t 5), none⟩ : IOper) ::
                (⟨(some 32), .minmax false (.t 31) (.c (.int .i64 8)), none⟩ : IOper) ::
                (⟨(some 8), .mov (.t 32), none⟩ : IOper) ::
                []))
              (.seq
               (.seq
                (.reg ((⟨(some 33), .mov (.t 7), none⟩ : IOper) ::
                  (⟨(some 34), .mov (.t 8), none⟩ : IOper) ::
                  (⟨(some 35), .bin .sub (.c (.int .i64 8)) (.t 34), none⟩ : IOper) ::
                  (⟨(some 36), .bin .shr (.t 33) (.t 35), none⟩ : IOper) ::
                  (⟨(some 37), .bin .neq (.t 36) (.c (.int .u8 0)), none⟩ : IOper) ::
                  []))
                (.cond (.t 37)
                 (.seq
                  (.reg ((⟨(some 4), .mov (.c (.kb false)), none⟩ : IOper) ::
                    []))
                  .ret)
                 .skip))
               (.reg ((⟨(some 38), .mov (.t 5), none⟩ : IOper) ::
                 (⟨(some 39), .mov (.t 8), none⟩ : IOper) ::
                 (⟨(some 40), .bin .sub (.t 38) (.t 39), none⟩ : IOper) ::
                 (⟨(some 5), .mov (.t 40), none⟩ : IOper) ::
                 []))))))
           (.reg ((⟨(some 41), .bin .add (.t 27) (.c (.int .i64 1)), none⟩ : IOper) ::
             (⟨(some 27), .mov (.t 41), none⟩ : IOper) ::
             []))))))))
     (.seq
      (.reg ((⟨(some 4), .mov (.c (.kb true)), none⟩ : IOper) ::
        []))
      .ret)))))
def rd_field_Fits : List RD := [.tmp 4 true none]
theorem ok_field_Fits : fnOk Try.prog Try.f7 ir_field_Fits rd_field_Fits = true := by kernel_rfl
def ir_field_Of : IR :=
 (.seq
  (.reg ((⟨(some 2), .box [.int .i64 0, .int .i64 0, .kb false, .int .i64 0, .imm (.int .u64) []], none⟩ : IOper) ::
    (⟨(some 3), .mov (.c (.kb false)), none⟩ : IOper) ::
    []))
  (.seq
   (.seq
    (.reg ((⟨(some 5), .mov (.t 0), none⟩ : IOper) ::
      (⟨(some 6), .call false (.f 19) [(.t 5)], none⟩ : IOper) ::
      (⟨(some 7), .un .not (.t 6), none⟩ : IOper) ::
      []))
    (.cond (.t 7)
     (.seq
      (.reg ((⟨(some 8), .build [.int .i64 0, .int .i64 0, .kb false, .int .i64 0, .imm (.int .u64) []] [], none⟩ : IOper) ::
        (⟨none, .store 5 (.t 2) (.t 8), none⟩ : IOper) ::
        (⟨(some 3), .mov (.c (.kb false)), none⟩ : IOper) ::
        []))
      .ret)
     .skip))
   (.seq
    (.reg ((⟨(some 9), .mov (.t 0), none⟩ : IOper) ::
      (⟨(some 10), .call false (.f 21) [(.t 9)], none⟩ : IOper) ::
      (⟨(some 11), .mov (.t 0), none⟩ : IOper) ::
      (⟨(some 12), .call false (.f 20) [(.t 11)], none⟩ : IOper) ::
      (⟨(some 13), .mov (.t 0), none⟩ : IOper) ::
      (⟨(some 14), .call false (.f 22) [(.t 13)], none⟩ : IOper) ::
      (⟨(some 15), .build [.int .i64 0, .int .i64 0, .kb false, .int .i64 0, .imm (.int .u64) []] [(0, 1, (.t 10)), (1, 1, (.t 12)), (2, 1, (.t 14))], none⟩ : IOper) ::
      (⟨(some 4), .box [.int .i64 0, .int .i64 0, .kb false, .int .i64 0, .imm (.int .u64) []], none⟩ : IOper) ::
      (⟨none, .store 5 (.t 4) (.t 15), none⟩ : IOper) ::
      []))
    (.seq
     (.reg ((⟨(some 17), .mov (.t 0), none⟩ : IOper) ::
       (⟨(some 18), .call false (.f 23) [(.t 17)], none⟩ : IOper) ::
       (⟨(some 16), .mov (.t 18), none⟩ : IOper) ::
       (⟨(some 19), .extract (.t 16) 0, none⟩ : IOper) ::
       (⟨(some 20), .extract (.t 16) 1, none⟩ : IOper) ::
       (⟨(some 21), .fieldAddr 3 (.t 4), none⟩ : IOper) ::
       (⟨none, .store 1 (.t 21) (.t 19), none⟩ : IOper) ::
       (⟨(some 22), .fieldAddr 4 (.t 4), none⟩ : IOper) ::
       (⟨none, .store 1 (.t 22) (.t 20), none⟩ : IOper) ::
       []))
     (.seq
      (.reg ((⟨(some 23), .load (some 5) (.t 4), none⟩ : IOper) ::
        (⟨none, .store 5 (.t 2) (.t 23), none⟩ : IOper) ::
        (⟨(some 3), .mov (.c (.kb true)), none⟩ : IOper) ::
        []))
      .ret)))))
def rd_field_Of : List RD := [.cell 2 (some 5) true, .tmp 3 true none]
theorem ok_field_Of : fnOk Try.prog Try.f9 ir_field_Of rd_field_Of = true := by kernel_rfl
def ir_field_Find : IR :=
 (.seq
  (.reg ((⟨(some 2), .mov (.c (.int .i64 0)), none⟩ : IOper) ::
    (⟨(some 3), .mov (.c (.kb false)), none⟩ : IOper) ::
    []))
  (.seq
   (.reg ((⟨(some 6), .call false (.f 25) [], none⟩ : IOper) ::
     (⟨(some 4), .box [.str [], .str [], .str [], .str [], .str [], .str [], .str [], .str [], .str [], .str [], .str [], .str [], .str [], .str [], .str [], .str [], .str [], .str [], .str [], .str [], .str [], .str [], .str [], .str [], .str [], .str [], .str [], .str [], .str [], .str [], .str [], .str [], .str [], .str [], .str [], .str [], .str [], .str [], .str [], .str []], none⟩ : IOper) ::
     (⟨none, .store 40 (.t 4) (.t 6), none⟩ : IOper) ::
     []))
   (.seq
    (.reg ((⟨(some 7), .sarr .str 40 (.t 4), none⟩ : IOper) ::
      (⟨(some 8), .mov (.t 0), none⟩ : IOper) ::
      (⟨(some 9), .call false (.f 26) [(.t 7), (.t 8)], none⟩ : IOper) ::
      (⟨(some 5), .mov (.t 9), none⟩ : IOper) ::
      []))
    (.seq
     (.reg ((⟨(some 10), .mov (.t 5), none⟩ : IOper) ::
       (⟨(some 11), .minmax true (.t 10) (.c (.int .i64 0)), none⟩ : IOper) ::
       (⟨(some 12), .mov (.t 5), none⟩ : IOper) ::
       (⟨(some 13), .bin .geq (.t 12) (.c (.int .i64 0)), none⟩ : IOper) ::
       (⟨(some 2), .mov (.t 11), none⟩ : IOper) ::
       (⟨(some 3), .mov (.t 13), none⟩ : IOper) ::
       []))
     .ret))))
def rd_field_Find : List RD := [.tmp 2 true none, .tmp 3 true none]
theorem ok_field_Find : fnOk Try.prog Try.f11 ir_field_Find rd_field_Find = true := by kernel_rfl
def ir_field_Needs : IR :=
 (.seq
  (.reg ((⟨(some 2), .mov (.c (.nils)), none⟩ : IOper) ::
    []))
  (.seq
   (.seq
    (.reg ((⟨(some 3), .mov (.t 0), none⟩ : IOper) ::
      (⟨(some 4), .call false (.f 19) [(.t 3)], none⟩ : IOper) ::
      (⟨(some 5), .un .not (.t 4), none⟩ : IOper) ::
      []))
    (.cond (.t 5)
     (.seq
      (.reg ((⟨(some 2), .mov (.c (.nils)), none⟩ : IOper) ::
        []))
      .ret)
     .skip))
   (.seq
    (.seq
     (.reg ((⟨(some 7), .mov (.t 0), none⟩ : IOper) ::
       (⟨(some 8), .call false (.f 23) [(.t 7)], none⟩ : IOper) ::
       (⟨(some 6), .mov (.t 8), none⟩ : IOper) ::
       (⟨(some 9), .extract (.t 6) 0, none⟩ : IOper) ::
       (⟨(some 10), .extract (.t 6) 1, none⟩ : IOper) ::
       (⟨(some 0), .mov (.t 9), none⟩ : IOper) ::
       []))
     (.block 0
      (.loop
       (.seq
        (.seq
         (.reg ((⟨(some 11), .mov (.t 0), none⟩ : IOper) ::
           (⟨(some 12), .bin .neq (.t 11) (.c (.int .i64 (-1))), none⟩ : IOper) ::
           []))
         (.cond (.t 12)
          .skip
          (.exit 0)))
        (.seq
         (.block 1
          (.reg ((⟨(some 18), .mov (.t 2), none⟩ : IOper) ::
            (⟨(some 19), .mov (.t 0), none⟩ : IOper) ::
            (⟨(some 20), .sliceAll (.int .i64) 1 [(0, 1, (.t 19))], none⟩ : IOper) ::
            (⟨(some 21), .append (.int .i64) 8 (.t 18) (.t 20), none⟩ : IOper) ::
            (⟨(some 2), .mov (.t 21), none⟩ : IOper) ::
            [])))
         (.reg ((⟨(some 14), .mov (.t 0), none⟩ : IOper) ::
           (⟨(some 15), .call false (.f 23) [(.t 14)], none⟩ : IOper) ::
           (⟨(some 13), .mov (.t 15), none⟩ : IOper) ::
           (⟨(some 16), .extract (.t 13) 0, none⟩ : IOper) ::
           (⟨(some 17), .extract (.t 13) 1, none⟩ : IOper) ::
           (⟨(some 0), .mov (.t 16), none⟩ : IOper) ::
           [])))))))
    (.seq
     (.reg ((⟨(some 22), .mov (.t 2), none⟩ : IOper) ::
       (⟨(some 23), .call true (.f 27) [(.t 22)], none⟩ : IOper) ::
       []))
     (.seq
      (.reg ((⟨(some 24), .mov (.t 2), none⟩ : IOper) ::
        (⟨(some 2), .mov (.t 24), none⟩ : IOper) ::
        []))
      .ret)))))
def rd_field_Needs : List RD := [.tmp 2 true (some (.int .i64))]
theorem ok_field_Needs : fnOk Try.prog Try.f13 ir_field_Needs rd_field_Needs = true := by kernel_rfl
def ir_field_Name : IR :=
 (.seq
  (.reg ((⟨(some 2), .mov (.c (.str [])), none⟩ : IOper) ::
    []))
  (.seq
   (.seq
    (.reg ((⟨(some 3), .mov (.t 0), none⟩ : IOper) ::
      (⟨(some 4), .call false (.f 19) [(.t 3)], none⟩ : IOper) ::
      (⟨(some 5), .un .not (.t 4), none⟩ : IOper) ::
      []))
    (.cond (.t 5)
     (.seq
      (.reg ((⟨(some 2), .mov (.c (.str [])), none⟩ : IOper) ::
        []))
      .ret)
     .skip))
   (.seq
    (.reg ((⟨(some 6), .call false (.f 25) [], none⟩ : IOper) ::
      (⟨(some 7), .mov (.t 0), none⟩ : IOper) ::
      (⟨(some 8), .pickS 40 (.t 6) (.t 7), none⟩ : IOper) ::
      (⟨(some 2), .mov (.t 8), none⟩ : IOper) ::
      []))
    .ret)))
def rd_field_Name : List RD := [.tmp 2 true none]
theorem ok_field_Name : fnOk Try.prog Try.f16 ir_field_Name rd_field_Name = true := by kernel_rfl
def ir_field_Settable : IR :=
 (.seq
  (.reg ((⟨(some 2), .mov (.c (.kb false)), none⟩ : IOper) ::
    []))
  (.seq
   (.reg ((⟨(some 3), .mov (.t 0), none⟩ : IOper) ::
     (⟨(some 4), .call false (.f 19) [(.t 3)], none⟩ : IOper) ::
     (⟨(some 5), .mov (.t 4), none⟩ : IOper) ::
     (⟨(some 6), .mov (.t 0), (some (5, true))⟩ : IOper) ::
     (⟨(some 7), .bin .gtr (.t 6) (.c (.int .i64 2)), (some (5, true))⟩ : IOper) ::
     (⟨(some 8), .pick (.t 5) (.t 7) (.c (.kb false)), none⟩ : IOper) ::
     (⟨(some 9), .mov (.t 8), none⟩ : IOper) ::
     (⟨(some 10), .mov (.t 0), (some (9, true))⟩ : IOper) ::
     (⟨(some 11), .bin .neq (.t 10) (.c (.int .i64 39)), (some (9, true))⟩ : IOper) ::
     (⟨(some 12), .pick (.t 9) (.t 11) (.c (.kb false)), none⟩ : IOper) ::
     (⟨(some 2), .mov (.t 12), none⟩ : IOper) ::
     []))
   .ret))
def rd_field_Settable : List RD := [.tmp 2 true none]
theorem ok_field_Settable : fnOk Try.prog Try.f17 ir_field_Settable rd_field_Settable = true := by kernel_rfl
def ir_field_is : IR :=
 (.seq
  (.reg ((⟨(some 2), .mov (.c (.kb false)), none⟩ : IOper) ::
    []))
  (.seq
   (.reg ((⟨(some 3), .mov (.t 0), none⟩ : IOper) ::
     (⟨(some 4), .bin .geq (.t 3) (.c (.int .i64 0)), none⟩ : IOper) ::
     (⟨(some 5), .mov (.t 4), none⟩ : IOper) ::
     (⟨(some 6), .mov (.t 0), (some (5, true))⟩ : IOper) ::
     (⟨(some 7), .bin .lss (.t 6) (.c (.int .i64 40)), (some (5, true))⟩ : IOper) ::
     (⟨(some 8), .pick (.t 5) (.t 7) (.c (.kb false)), none⟩ : IOper) ::
     (⟨(some 2), .mov (.t 8), none⟩ : IOper) ::
     []))
   .ret))
def rd_field_is : List RD := [.tmp 2 true none]
theorem ok_field_is : fnOk Try.prog Try.f19 ir_field_is rd_field_is = true := by kernel_rfl
def ir_field_size : IR :=
 (.seq
  (.reg ((⟨(some 2), .mov (.c (.int .i64 0)), none⟩ : IOper) ::
    []))
  (.seq
   (.seq
    (.reg ((⟨(some 3), .mov (.t 0), none⟩ : IOper) ::
      []))
    (.block 0
     (.seq
      (.seq
       (.reg ((⟨(some 5), .bin .eql (.t 3) (.c (.int .i64 28)), none⟩ : IOper) ::
         (⟨(some 4), .mov (.t 5), none⟩ : IOper) ::
         []))
       (.cond (.t 4)
        .skip
        (.reg ((⟨(some 6), .bin .eql (.t 3) (.c (.int .i64 34)), none⟩ : IOper) ::
          (⟨(some 4), .mov (.t 6), none⟩ : IOper) ::
          []))))
      (.cond (.t 4)
       (.seq
        (.reg ((⟨(some 2), .mov (.c (.int .i64 4)), none⟩ : IOper) ::
          []))
        .ret)
       .skip))))
   (.seq
    (.reg ((⟨(some 7), .mov (.t 0), none⟩ : IOper) ::
      (⟨(some 8), .call false (.f 21) [(.t 7)], none⟩ : IOper) ::
      (⟨(some 9), .bin .add (.t 8) (.c (.int .i64 8)), none⟩ : IOper) ::
      (⟨(some 10), .bin .sub (.t 9) (.c (.int .i64 1)), none⟩ : IOper) ::
      (⟨(some 11), .bin .quo (.t 10) (.c (.int .i64 8)), none⟩ : IOper) ::
      (⟨(some 2), .mov (.t 11), none⟩ : IOper) ::
      []))
    .ret)))
def rd_field_size : List RD := [.tmp 2 true none]
theorem ok_field_size : fnOk Try.prog Try.f20 ir_field_size rd_field_size = true := by kernel_rfl
def ir_field_bits : IR :=
 (.seq
  (.reg ((⟨(some 2), .mov (.c (.int .i64 0)), none⟩ : IOper) ::
    []))
  (.seq
   (.reg ((⟨(some 4), .buildAll 40 [(0, 1, (.c (.int .i64 32))), (1, 1, (.c (.int .i64 32))), (2, 1, (.c (.int .i64 64))), (3, 1, (.c (.int .i64 48))), (4, 1, (.c (.int .i64 48))), (5, 1, (.c (.int .i64 16))), (6, 1, (.c (.int .i64 13))), (7, 1, (.c (.int .i64 3))), (8, 1, (.c (.int .i64 6))), (9, 1, (.c (.int .i64 2))), (10, 1, (.c (.int .i64 8))), (11, 1, (.c (.int .i64 32))), (12, 1, (.c (.int .i64 32))), (13, 1, (.c (.int .i64 16))), (14, 1, (.c (.int .i64 16))), (15, 1, (.c (.int .i64 16))), (16, 1, (.c (.int .i64 16))), (17, 1, (.c (.int .i64 16))), (18, 1, (.c (.int .i64 16))), (19, 1, (.c (.int .i64 8))), (20, 1, (.c (.int .i64 8))), (21, 1, (.c (.int .i64 16))), (22, 1, (.c (.int .i64 32))), (23, 1, (.c (.int .i64 32))), (24, 1, (.c (.int .i64 48))), (25, 1, (.c (.int .i64 48))), (26, 1, (.c (.int .i64 128))), (27, 1, (.c (.int .i64 128))), (28, 1, (.c (.int .i64 20))), (29, 1, (.c (.int .i64 8))), (30, 1, (.c (.int .i64 8))), (31, 1, (.c (.int .i64 128))), (32, 1, (.c (.int .i64 48))), (33, 1, (.c (.int .i64 48))), (34, 1, (.c (.int .i64 20))), (35, 1, (.c (.int .i64 3))), (36, 1, (.c (.int .i64 1))), (37, 1, (.c (.int .i64 24))), (38, 1, (.c (.int .i64 64))), (39, 1, (.c (.int .i64 9)))], none⟩ : IOper) ::
     (⟨(some 3), .box [.int .i64 0, .int .i64 0, .int .i64 0, .int .i64 0, .int .i64 0, .int .i64 0, .int .i64 0, .int .i64 0, .int .i64 0, .int .i64 0, .int .i64 0, .int .i64 0, .int .i64 0, .int .i64 0, .int .i64 0, .int .i64 0, .int .i64 0, .int .i64 0, .int .i64 0, .int .i64 0, .int .i64 0, .int .i64 0, .int .i64 0, .int .i64 0, .int .i64 0, .int .i64 0, .int .i64 0, .int .i64 0, .int .i64 0, .int .i64 0, .int .i64 0, .int .i64 0, .int .i64 0, .int .i64 0, .int .i64 0, .int .i64 0, .int .i64 0, .int .i64 0, .int .i64 0, .int .i64 0], none⟩ : IOper) ::
     (⟨none, .store 40 (.t 3) (.t 4), none⟩ : IOper) ::
     []))
   (.seq
    (.reg ((⟨(some 5), .mov (.t 0), none⟩ : IOper) ::
      (⟨(some 6), .indexArr 1 40 (.t 3) (.t 5), none⟩ : IOper) ::
      (⟨(some 7), .loadI .i64 (.t 6), none⟩ : IOper) ::
      (⟨(some 2), .mov (.t 7), none⟩ : IOper) ::
      []))
    .ret)))
def rd_field_bits : List RD := [.tmp 2 true none]
theorem ok_field_bits : fnOk Try.prog Try.f21 ir_field_bits rd_field_bits = true := by kernel_rfl
def ir_field_masked : IR :=
 (.seq
  (.reg ((⟨(some 2), .mov (.c (.kb false)), none⟩ : IOper) ::
    []))
  (.seq
   (.seq
    (.reg ((⟨(some 3), .mov (.t 0), none⟩ : IOper) ::
      []))
    (.block 0
     (.seq
      (.block 2
       (.block 1
        (.seq
         (.seq
          (.seq
           (.seq
            (.reg ((⟨(some 5), .bin .eql (.t 3) (.c (.int .i64 2)), none⟩ : IOper) ::
              (⟨(some 4), .mov (.t 5), none⟩ : IOper) ::
              []))
            (.cond (.t 4)
             .skip
             (.seq
              (.reg ((⟨(some 6), .bin .eql (.t 3) (.c (.int .i64 3)), none⟩ : IOper) ::
                (⟨(some 4), .mov (.t 6), none⟩ : IOper) ::
                []))
              (.cond (.t 4)
               .skip
               (.seq
                (.reg ((⟨(some 7), .bin .eql (.t 3) (.c (.int .i64 4)), none⟩ : IOper) ::
                  (⟨(some 4), .mov (.t 7), none⟩ : IOper) ::
                  []))
                (.cond (.t 4)
                 .skip
                 (.seq
                  (.reg ((⟨(some 8), .bin .eql (.t 3) (.c (.int .i64 6)), none⟩ : IOper) ::
                    (⟨(some 4), .mov (.t 8), none⟩ : IOper) ::
                    []))
                  (.cond (.t 4)
                   .skip
                   (.seq
                    (.reg ((⟨(some 9), .bin .eql (.t 3) (.c (.int .i64 11)), none⟩ : IOper) ::
                      (⟨(some 4), .mov (.t 9), none⟩ : IOper) ::
                      []))
                    (.cond (.t 4)
                     .skip
                     (.seq
                      (.reg ((⟨(some 10), .bin .eql (.t 3) (.c (.int .i64 12)), none⟩ : IOper) ::
                        (⟨(some 4), .mov (.t 10), none⟩ : IOper) ::
                        []))
                      (.cond (.t 4)
                       .skip
                       (.seq
                        (.reg ((⟨(some 11), .bin .eql (.t 3) (.c (.int .i64 37)), none⟩ : IOper) ::
                          (⟨(some 4), .mov (.t 11), none⟩ : IOper) ::
                          []))
                        (.cond (.t 4)
                         .skip
                         (.seq
                          (.reg ((⟨(some 12), .bin .eql (.t 3) (.c (.int .i64 38)), none⟩ : IOper) ::
                            (⟨(some 4), .mov (.t 12), none⟩ : IOper) ::
                            []))
                          (.cond (.t 4)
                           .skip
                           (.reg ((⟨(some 13), .bin .eql (.t 3) (.c (.int .i64 39)), none⟩ : IOper) ::
                             (⟨(some 4), .mov (.t 13), none⟩ : IOper) ::
                             []))))))))))))))))))
           (.cond (.t 4)
            (.exit 1)
            .skip))
          (.seq
           (.seq
            (.reg ((⟨(some 15), .bin .eql (.t 3) (.c (.int .i64 22)), none⟩ : IOper) ::
              (⟨(some 14), .mov (.t 15), none⟩ : IOper) ::
              []))
            (.cond (.t 14)
             .skip
             (.seq
              (.reg ((⟨(some 16), .bin .eql (.t 3) (.c (.int .i64 23)), none⟩ : IOper) ::
                (⟨(some 14), .mov (.t 16), none⟩ : IOper) ::
                []))
              (.cond (.t 14)
               .skip
               (.seq
                (.reg ((⟨(some 17), .bin .eql (.t 3) (.c (.int .i64 24)), none⟩ : IOper) ::
                  (⟨(some 14), .mov (.t 17), none⟩ : IOper) ::
                  []))
                (.cond (.t 14)
                 .skip
                 (.seq
                  (.reg ((⟨(some 18), .bin .eql (.t 3) (.c (.int .i64 25)), none⟩ : IOper) ::
                    (⟨(some 14), .mov (.t 18), none⟩ : IOper) ::
                    []))
                  (.cond (.t 14)
                   .skip
                   (.seq
                    (.reg ((⟨(some 19), .bin .eql (.t 3) (.c (.int .i64 26)), none⟩ : IOper) ::
                      (⟨(some 14), .mov (.t 19), none⟩ : IOper) ::
                      []))
                    (.cond (.t 14)
                     .skip
                     (.seq
                      (.reg ((⟨(some 20), .bin .eql (.t 3) (.c (.int .i64 27)), none⟩ : IOper) ::
                        (⟨(some 14), .mov (.t 20), none⟩ : IOper) ::
                        []))
                      (.cond (.t 14)
                       .skip
                       (.reg ((⟨(some 21), .bin .eql (.t 3) (.c (.int .i64 28)), none⟩ : IOper) ::
                         (⟨(some 14), .mov (.t 21), none⟩ : IOper) ::
                         []))))))))))))))
           (.cond (.t 14)
            (.exit 2)
            .skip)))
         (.exit 0))))
      (.seq
       (.seq
        (.reg ((⟨(some 2), .mov (.c (.kb true)), none⟩ : IOper) ::
          []))
        .ret)
       (.exit 0)))))
   (.seq
    (.reg ((⟨(some 2), .mov (.c (.kb false)), none⟩ : IOper) ::
      []))
    .ret)))
def rd_field_masked : List RD := [.tmp 2 true none]
theorem ok_field_masked : fnOk Try.prog Try.f22 ir_field_masked rd_field_masked = true := by kernel_rfl
def ir_field_need : IR :=
 (.seq
  (.reg ((⟨(some 2), .mov (.c (.int .i64 0)), none⟩ : IOper) ::
    (⟨(some 3), .mov (.c (.imm (.int .u64) [])), none⟩ : IOper) ::
    []))
  (.seq
   (.seq
    (.reg ((⟨(some 4), .mov (.t 0), none⟩ : IOper) ::
      []))
    (.block 0
     (.seq
      (.reg ((⟨(some 6), .bin .eql (.t 4) (.c (.int .i64 1)), none⟩ : IOper) ::
        (⟨(some 5), .mov (.t 6), none⟩ : IOper) ::
        []))
      (.cond (.t 5)
       (.seq
        (.reg ((⟨(some 2), .mov (.c (.int .i64 0)), none⟩ : IOper) ::
          (⟨(some 3), .mov (.c (.imm (.int .u64) [])), none⟩ : IOper) ::
          []))
        .ret)
       (.seq
        (.reg ((⟨(some 8), .bin .eql (.t 4) (.c (.int .i64 7)), none⟩ : IOper) ::
          (⟨(some 7), .mov (.t 8), none⟩ : IOper) ::
          []))
        (.cond (.t 7)
         (.seq
          (.reg ((⟨(some 2), .mov (.c (.int .i64 6)), none⟩ : IOper) ::
            (⟨(some 3), .mov (.c (.imm (.int .u64) [])), none⟩ : IOper) ::
            []))
          .ret)
         (.seq
          (.seq
           (.reg ((⟨(some 10), .bin .eql (.t 4) (.c (.int .i64 8)), none⟩ : IOper) ::
             (⟨(some 9), .mov (.t 10), none⟩ : IOper) ::
             []))
           (.cond (.t 9)
            .skip
            (.seq
             (.reg ((⟨(some 11), .bin .eql (.t 4) (.c (.int .i64 9)), none⟩ : IOper) ::
               (⟨(some 9), .mov (.t 11), none⟩ : IOper) ::
               []))
             (.cond (.t 9)
              .skip
              (.reg ((⟨(some 12), .bin .eql (.t 4) (.c (.int .i64 10)), none⟩ : IOper) ::
                (⟨(some 9), .mov (.t 12), none⟩ : IOper) ::
                []))))))
          (.cond (.t 9)
           (.seq
            (.reg ((⟨(some 13), .sliceAll (.int .u64) 2 [(0, 1, (.c (.int .u64 2048))), (1, 1, (.c (.int .u64 34525)))], none⟩ : IOper) ::
              (⟨(some 2), .mov (.c (.int .i64 5)), none⟩ : IOper) ::
              (⟨(some 3), .mov (.t 13), none⟩ : IOper) ::
              []))
            .ret)
           (.seq
            (.seq
             (.reg ((⟨(some 15), .bin .eql (.t 4) (.c (.int .i64 11)), none⟩ : IOper) ::
               (⟨(some 14), .mov (.t 15), none⟩ : IOper) ::
               []))
             (.cond (.t 14)
              .skip
              (.reg ((⟨(some 16), .bin .eql (.t 4) (.c (.int .i64 12)), none⟩ : IOper) ::
                (⟨(some 14), .mov (.t 16), none⟩ : IOper) ::
                []))))
            (.cond (.t 14)
             (.seq
              (.reg ((⟨(some 17), .sliceAll (.int .u64) 1 [(0, 1, (.c (.int .u64 2048)))], none⟩ : IOper) ::
                (⟨(some 2), .mov (.c (.int .i64 5)), none⟩ : IOper) ::
                (⟨(some 3), .mov (.t 17), none⟩ : IOper) ::
                []))
              .ret)
             (.seq
              (.seq
               (.reg ((⟨(some 19), .bin .eql (.t 4) (.c (.int .i64 21)), none⟩ : IOper) ::
                 (⟨(some 18), .mov (.t 19), none⟩ : IOper) ::
                 []))
               (.cond (.t 18)
                .skip
                (.seq
                 (.reg ((⟨(some 20), .bin .eql (.t 4) (.c (.int .i64 22)), none⟩ : IOper) ::
                   (⟨(some 18), .mov (.t 20), none⟩ : IOper) ::
                   []))
                 (.cond (.t 18)
                  .skip
                  (.seq
                   (.reg ((⟨(some 21), .bin .eql (.t 4) (.c (.int .i64 23)), none⟩ : IOper) ::
                     (⟨(some 18), .mov (.t 21), none⟩ : IOper) ::
                     []))
                   (.cond (.t 18)
                    .skip
                    (.seq
                     (.reg ((⟨(some 22), .bin .eql (.t 4) (.c (.int .i64 24)), none⟩ : IOper) ::
                       (⟨(some 18), .mov (.t 22), none⟩ : IOper) ::
                       []))
                     (.cond (.t 18)
                      .skip
                      (.reg ((⟨(some 23), .bin .eql (.t 4) (.c (.int .i64 25)), none⟩ : IOper) ::
                        (⟨(some 18), .mov (.t 23), none⟩ : IOper) ::
                        []))))))))))
              (.cond (.t 18)
               (.seq
                (.reg ((⟨(some 24), .sliceAll (.int .u64) 1 [(0, 1, (.c (.int .u64 2054)))], none⟩ : IOper) ::
                  (⟨(some 2), .mov (.c (.int .i64 5)), none⟩ : IOper) ::
                  (⟨(some 3), .mov (.t 24), none⟩ : IOper) ::
                  []))
                .ret)
               (.seq
                (.seq
                 (.reg ((⟨(some 26), .bin .eql (.t 4) (.c (.int .i64 26)), none⟩ : IOper) ::
                   (⟨(some 25), .mov (.t 26), none⟩ : IOper) ::
                   []))
                 (.cond (.t 25)
                  .skip
                  (.seq
                   (.reg ((⟨(some 27), .bin .eql (.t 4) (.c (.int .i64 27)), none⟩ : IOper) ::
                     (⟨(some 25), .mov (.t 27), none⟩ : IOper) ::
                     []))
                   (.cond (.t 25)
                    .skip
                    (.seq
                     (.reg ((⟨(some 28), .bin .eql (.t 4) (.c (.int .i64 28)), none⟩ : IOper) ::
                       (⟨(some 25), .mov (.t 28), none⟩ : IOper) ::
                       []))
                     (.cond (.t 25)
                      .skip
                      (.reg ((⟨(some 29), .bin .eql (.t 4) (.c (.int .i64 39)), none⟩ : IOper) ::
                        (⟨(some 25), .mov (.t 29), none⟩ : IOper) ::
                        []))))))))
                (.cond (.t 25)
                 (.seq
                  (.reg ((⟨(some 30), .sliceAll (.int .u64) 1 [(0, 1, (.c (.int .u64 34525)))], none⟩ : IOper) ::
                    (⟨(some 2), .mov (.c (.int .i64 5)), none⟩ : IOper) ::
                    (⟨(some 3), .mov (.t 30), none⟩ : IOper) ::
                    []))
                  .ret)
                 (.seq
                  (.seq
                   (.reg ((⟨(some 32), .bin .eql (.t 4) (.c (.int .i64 34)), none⟩ : IOper) ::
                     (⟨(some 31), .mov (.t 32), none⟩ : IOper) ::
                     []))
                   (.cond (.t 31)
                    .skip
                    (.seq
                     (.reg ((⟨(some 33), .bin .eql (.t 4) (.c (.int .i64 35)), none⟩ : IOper) ::
                       (⟨(some 31), .mov (.t 33), none⟩ : IOper) ::
                       []))
                     (.cond (.t 31)
                      .skip
                      (.reg ((⟨(some 34), .bin .eql (.t 4) (.c (.int .i64 36)), none⟩ : IOper) ::
                        (⟨(some 31), .mov (.t 34), none⟩ : IOper) ::
                        []))))))
                  (.cond (.t 31)
                   (.seq
                    (.reg ((⟨(some 35), .sliceAll (.int .u64) 2 [(0, 1, (.c (.int .u64 34887))), (1, 1, (.c (.int .u64 34888)))], none⟩ : IOper) ::
                      (⟨(some 2), .mov (.c (.int .i64 5)), none⟩ : IOper) ::
                      (⟨(some 3), .mov (.t 35), none⟩ : IOper) ::
                      []))
                    .ret)
                   (.seq
                    (.reg ((⟨(some 37), .bin .eql (.t 4) (.c (.int .i64 37)), none⟩ : IOper) ::
                      (⟨(some 36), .mov (.t 37), none⟩ : IOper) ::
                      []))
                    (.cond (.t 36)
                     (.seq
                      (.reg ((⟨(some 38), .sliceAll (.int .u64) 1 [(0, 1, (.c (.int .u64 35047)))], none⟩ : IOper) ::
                        (⟨(some 2), .mov (.c (.int .i64 5)), none⟩ : IOper) ::
                        (⟨(some 3), .mov (.t 38), none⟩ : IOper) ::
                        []))
                      .ret)
                     .skip))))))))))))))))))
   (.seq
    (.reg ((⟨(some 39), .mov (.t 0), none⟩ : IOper) ::
      (⟨(some 40), .call false (.f 28) [(.t 39)], none⟩ : IOper) ::
      (⟨(some 41), .extract (.t 40) 0, none⟩ : IOper) ::
      (⟨(some 42), .extract (.t 40) 1, none⟩ : IOper) ::
      (⟨(some 2), .mov (.t 41), none⟩ : IOper) ::
      (⟨(some 3), .mov (.t 42), none⟩ : IOper) ::
      []))
    .ret)))
def rd_field_need : List RD := [.tmp 2 true none, .tmp 3 true (some (.int .u64))]
theorem ok_field_need : fnOk Try.prog Try.f23 ir_field_need rd_field_need = true := by kernel_rfl
def ir_field_names : IR :=
 (.seq
  (.reg ((⟨(some 0), .box [.str [], .str [], .str [], .str [], .str [], .str [], .str [], .str [], .str [], .str [], .str [], .str [], .str [], .str [], .str [], .str [], .str [], .str [], .str [], .str [], .str [], .str [], .str [], .str [], .str [], .str [], .str [], .str [], .str [], .str [], .str [], .str [], .str [], .str [], .str [], .str [], .str [], .str [], .str [], .str []], none⟩ : IOper) ::
    []))
  (.seq
   (.reg ((⟨(some 1), .buildAll 40 [(0, 1, (.c (.str [105, 110, 95, 112, 111, 114, 116]))), (1, 1, (.c (.str [105, 110, 95, 112, 104, 121, 95, 112, 111, 114, 116]))), (2, 1, (.c (.str [109, 101, 116, 97, 100, 97, 116, 97]))), (3, 1, (.c (.str [101, 116, 104, 95, 100, 115, 116]))), (4, 1, (.c (.str [101, 116, 104, 95, 115, 114, 99]))), (5, 1, (.c (.str [101, 116, 104, 95, 116, 121, 112, 101]))), (6, 1, (.c (.str [118, 108, 97, 110, 95, 118, 105, 100]))), (7, 1, (.c (.str [118, 108, 97, 110, 95, 112, 99, 112]))), (8, 1, (.c (.str [105, 112, 95, 100, 115, 99, 112]))), (9, 1, (.c (.str [105, 112, 95, 101, 99, 110]))), (10, 1, (.c (.str [105, 112, 95, 112, 114, 111, 116, 111]))), (11, 1, (.c (.str [105, 112, 118, 52, 95, 115, 114, 99]))), (12, 1, (.c (.str [105, 112, 118, 52, 95, 100, 115, 116]))), (13, 1, (.c (.str [116, 99, 112, 95, 115, 114, 99]))), (14, 1, (.c (.str [116, 99, 112, 95, 100, 115, 116]))), (15, 1, (.c (.str [117, 100, 112, 95, 115, 114, 99]))), (16, 1, (.c (.str [117, 100, 112, 95, 100, 115, 116]))), (17, 1, (.c (.str [115, 99, 116, 112, 95, 115, 114, 99]))), (18, 1, (.c (.str [115, 99, 116, 112, 95, 100, 115, 116]))), (19, 1, (.c (.str [105, 99, 109, 112, 118, 52, 95, 116, 121, 112, 101]))), (20, 1, (.c (.str [105, 99, 109, 112, 118, 52, 95, 99, 111, 100, 101]))), (21, 1, (.c (.str [97, 114, 112, 95, 111, 112]))), (22, 1, (.c (.str [97, 114, 112, 95, 115, 112, 97]))), (23, 1, (.c (.str [97, 114, 112, 95, 116, 112, 97]))), (24, 1, (.c (.str [97, 114, 112, 95, 115, 104, 97]))), (25, 1, (.c (.str [97, 114, 112, 95, 116, 104, 97]))), (26, 1, (.c (.str [105, 112, 118, 54, 95, 115, 114, 99]))), (27, 1, (.c (.str [105, 112, 118, 54, 95, 100, 115, 116]))), (28, 1, (.c (.str [105, 112, 118, 54, 95, 102, 108, 97, 98, 101, 108]))), (29, 1, (.c (.str [105, 99, 109, 112, 118, 54, 95, 116, 121, 112, 101]))), (30, 1, (.c (.str [105, 99, 109, 112, 118, 54, 95, 99, 111, 100, 101]))), (31, 1, (.c (.str [105, 112, 118, 54, 95, 110, 100, 95, 116, 97, 114, 103, 101, 116]))), (32, 1, (.c (.str [105, 112, 118, 54, 95, 110, 100, 95, 115, 108, 108]))), (33, 1, (.c (.str [105, 112, 118, 54, 95, 110, 100, 95, 116, 108, 108]))), (34, 1, (.c (.str [109, 112, 108, 115, 95, 108, 97, 98, 101, 108]))), (35, 1, (.c (.str [109, 112, 108, 115, 95, 116, 99]))), (36, 1, (.c (.str [109, 112, 108, 115, 95, 98, 111, 115]))), (37, 1, (.c (.str [112, 98, 98, 95, 105, 115, 105, 100]))), (38, 1, (.c (.str [116, 117, 110, 110, 101, 108, 95, 105, 100]))), (39, 1, (.c (.str [105, 112, 118, 54, 95, 101, 120, 116, 104, 100, 114])))], none⟩ : IOper) ::
     (⟨none, .store 40 (.t 0) (.t 1), none⟩ : IOper) ::
     []))
   .ret))
def rd_field_names : List RD := [.cell 0 (some 40) true]
theorem ok_field_names : fnOk Try.prog Try.f25 ir_field_names rd_field_names = true := by kernel_rfl
def ir_slices_Index_string_string : IR :=
 (.seq
  (.reg ((⟨(some 4), .mov (.c (.int .i64 0)), none⟩ : IOper) ::
    []))
  (.seq
   (.seq
    (.reg ((⟨(some 6), .mov (.t 0), none⟩ : IOper) ::
      (⟨(some 7), .len (.t 6), none⟩ : IOper) ::
      (⟨(some 8), .mov (.c (.int .i64 0)), none⟩ : IOper) ::
      []))
    (.block 0
     (.loop
      (.seq
       (.reg ((⟨(some 9), .bin .lss (.t 8) (.t 7), none⟩ : IOper) ::
         []))
       (.seq
        (.cond (.t 9)
         .skip
         (.exit 0))
        (.seq
         (.block 1
          (.seq
           (.reg ((⟨(some 10), .mov (.t 8), none⟩ : IOper) ::
             (⟨(some 5), .mov (.t 10), none⟩ : IOper) ::
             []))
           (.seq
            (.reg ((⟨(some 11), .mov (.t 1), none⟩ : IOper) ::
              (⟨(some 12), .mov (.t 0), none⟩ : IOper) ::
              (⟨(some 13), .mov (.t 5), none⟩ : IOper) ::
              (⟨(some 14), .indexSl 1 (.t 12) (.t 13), none⟩ : IOper) ::
              (⟨(some 15), .load none (.t 14), none⟩ : IOper) ::
              (⟨(some 16), .bin .eql (.t 11) (.t 15), none⟩ : IOper) ::
              []))
            (.cond (.t 16)
             (.seq
              (.reg ((⟨(some 17), .mov (.t 5), none⟩ : IOper) ::
                (⟨(some 4), .mov (.t 17), none⟩ : IOper) ::
                []))
              .ret)
             .skip))))
         (.reg ((⟨(some 18), .bin .add (.t 8) (.c (.int .i64 1)), none⟩ : IOper) ::
           (⟨(some 8), .mov (.t 18), none⟩ : IOper) ::
           []))))))))
   (.seq
    (.reg ((⟨(some 4), .mov (.c (.int .i64 (-1))), none⟩ : IOper) ::
      []))
    .ret)))
def rd_slices_Index_string_string : List RD := [.tmp 4 true none]
theorem ok_slices_Index_string_string : fnOk Try.prog Try.f26 ir_slices_Index_string_string rd_slices_Index_string_string = true := by kernel_rfl
def ir_slices_Reverse_int_int : IR :=
 (.seq
  (.reg ((⟨(some 4), .mov (.t 0), none⟩ : IOper) ::
    (⟨(some 5), .len (.t 4), none⟩ : IOper) ::
    (⟨(some 6), .bin .sub (.t 5) (.c (.int .i64 1)), none⟩ : IOper) ::
    (⟨(some 2), .mov (.c (.int .i64 0)), none⟩ : IOper) ::
    (⟨(some 3), .mov (.t 6), none⟩ : IOper) ::
    []))
  (.block 0
   (.loop
    (.seq
     (.seq
      (.reg ((⟨(some 7), .mov (.t 2), none⟩ : IOper) ::
        (⟨(some 8), .mov (.t 3), none⟩ : IOper) ::
        (⟨(some 9), .bin .lss (.t 7) (.t 8), none⟩ : IOper) ::
        []))
      (.cond (.t 9)
       .skip
       (.exit 0)))
     (.seq
      (.block 1
       (.regD (((⟨(some 14), .mov (.t 0), none⟩, []) : IOper × List Nat) ::
         ((⟨(some 15), .mov (.t 2), none⟩, [0]) : IOper × List Nat) ::
         ((⟨(some 16), .mov (.t 0), none⟩, [0, 1]) : IOper × List Nat) ::
         ((⟨(some 17), .mov (.t 3), none⟩, [0, 1, 2]) : IOper × List Nat) ::
         ((⟨(some 18), .mov (.t 0), none⟩, [0, 1, 2, 3]) : IOper × List Nat) ::
         ((⟨(some 19), .mov (.t 3), none⟩, [0, 1, 2, 3, 4]) : IOper × List Nat) ::
         ((⟨(some 20), .indexSl 1 (.t 18) (.t 19), none⟩, [0, 1, 2, 3]) : IOper × List Nat) ::
         ((⟨(some 21), .load none (.t 20), none⟩, [0, 1, 2, 3]) : IOper × List Nat) ::
         ((⟨(some 22), .mov (.t 0), none⟩, [0, 1, 2, 3, 4, 5, 6, 7]) : IOper × List Nat) ::
         ((⟨(some 23), .mov (.t 2), none⟩, [0, 1, 2, 3, 4, 5, 6, 7, 8]) : IOper × List Nat) ::
         ((⟨(some 24), .indexSl 1 (.t 22) (.t 23), none⟩, [0, 1, 2, 3, 4, 5, 6, 7]) : IOper × List Nat) ::
         ((⟨(some 25), .load none (.t 24), none⟩, [0, 1, 2, 3, 4, 5, 6, 7]) : IOper × List Nat) ::
         ((⟨(some 26), .indexSl 1 (.t 14) (.t 15), none⟩, [2, 3]) : IOper × List Nat) ::
         ((⟨none, .store 1 (.t 26) (.t 21), none⟩, [2, 3]) : IOper × List Nat) ::
         ((⟨(some 27), .indexSl 1 (.t 16) (.t 17), none⟩, []) : IOper × List Nat) ::
         ((⟨none, .store 1 (.t 27) (.t 25), none⟩, []) : IOper × List Nat) ::
         [])))
      (.reg ((⟨(some 10), .mov (.t 2), none⟩ : IOper) ::
        (⟨(some 11), .bin .add (.t 10) (.c (.int .i64 1)), none⟩ : IOper) ::
        (⟨(some 12), .mov (.t 3), none⟩ : IOper) ::
        (⟨(some 13), .bin .sub (.t 12) (.c (.int .i64 1)), none⟩ : IOper) ::
        (⟨(some 2), .mov (.t 11), none⟩ : IOper) ::
        (⟨(some 3), .mov (.t 13), none⟩ : IOper) ::
        [])))))))
def rd_slices_Reverse_int_int : List RD := []
theorem ok_slices_Reverse_int_int : fnOk Try.prog Try.f27 ir_slices_Reverse_int_int rd_slices_Reverse_int_int = true := by kernel_rfl
end Go.Eng
