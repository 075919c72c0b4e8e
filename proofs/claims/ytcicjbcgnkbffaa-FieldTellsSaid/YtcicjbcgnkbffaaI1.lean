/- The functions of the given program, in the small language. No condition. -/
import Derived.Test.YtcicjbcgnkbffaaProg
import Derived.Test.YtcicjbcgnkbffaaESum
import Derived.KernelRfl
namespace Go.Eng
open Go.Proofs
def ir_l07_FieldTells : IR :=
 (.seq
  (.reg ((⟨(some 4), .mov (.c (.kb false)), none⟩ : IOper) ::
    []))
  (.seq
   (.seq
    (.reg ((⟨(some 16), .mov (.t 1), none⟩ : IOper) ::
      (⟨(some 17), .slen (.t 16), none⟩ : IOper) ::
      (⟨(some 18), .bin .gtr (.t 17) (.c (.int .i64 100)), none⟩ : IOper) ::
      []))
    (.cond (.t 18)
     (.seq
      (.reg ((⟨(some 19), .call false (.f 6) [], none⟩ : IOper) ::
        (⟨(some 4), .mov (.t 19), none⟩ : IOper) ::
        []))
      .ret)
     .skip))
   (.seq
    (.reg ((⟨(some 21), .mov (.t 0), none⟩ : IOper) ::
      (⟨(some 22), .call false (.f 9) [(.t 21)], none⟩ : IOper) ::
      (⟨(some 20), .mov (.t 22), none⟩ : IOper) ::
      (⟨(some 23), .extract (.t 20) 0, none⟩ : IOper) ::
      (⟨(some 24), .extract (.t 20) 1, none⟩ : IOper) ::
      (⟨(some 5), .box [.int .i64 0, .int .i64 0, .kb false, .int .i64 0, .imm (.int .u64) []], none⟩ : IOper) ::
      (⟨none, .store 5 (.t 5) (.t 23), none⟩ : IOper) ::
      (⟨(some 6), .mov (.t 24), none⟩ : IOper) ::
      []))
    (.seq
     (.reg ((⟨(some 26), .mov (.t 0), none⟩ : IOper) ::
       (⟨(some 27), .call false (.f 10) [(.t 26)], none⟩ : IOper) ::
       (⟨(some 25), .mov (.t 27), none⟩ : IOper) ::
       (⟨(some 28), .extract (.t 25) 0, none⟩ : IOper) ::
       (⟨(some 29), .extract (.t 25) 1, none⟩ : IOper) ::
       (⟨(some 7), .box [.str [], .int .i64 0, .int .i64 0, .kb false, .int .i64 0, .imm (.int .u64) []], none⟩ : IOper) ::
       (⟨none, .store 6 (.t 7) (.t 28), none⟩ : IOper) ::
       (⟨(some 8), .mov (.t 29), none⟩ : IOper) ::
       []))
     (.seq
      (.reg ((⟨(some 31), .mov (.t 1), none⟩ : IOper) ::
        (⟨(some 32), .call false (.f 11) [(.t 31)], none⟩ : IOper) ::
        (⟨(some 30), .mov (.t 32), none⟩ : IOper) ::
        (⟨(some 33), .extract (.t 30) 0, none⟩ : IOper) ::
        (⟨(some 34), .extract (.t 30) 1, none⟩ : IOper) ::
        (⟨(some 9), .mov (.t 33), none⟩ : IOper) ::
        (⟨(some 10), .mov (.t 34), none⟩ : IOper) ::
        []))
      (.seq
       (.reg ((⟨(some 36), .mov (.t 1), none⟩ : IOper) ::
         (⟨(some 37), .call false (.f 12) [(.t 36)], none⟩ : IOper) ::
         (⟨(some 35), .mov (.t 37), none⟩ : IOper) ::
         (⟨(some 38), .extract (.t 35) 0, none⟩ : IOper) ::
         (⟨(some 39), .extract (.t 35) 1, none⟩ : IOper) ::
         (⟨(some 11), .mov (.t 38), none⟩ : IOper) ::
         (⟨(some 12), .mov (.t 39), none⟩ : IOper) ::
         []))
       (.seq
        (.reg ((⟨(some 40), .mov (.t 0), none⟩ : IOper) ::
          (⟨(some 41), .call false (.f 13) [(.t 40)], none⟩ : IOper) ::
          (⟨(some 42), .mov (.t 0), none⟩ : IOper) ::
          (⟨(some 43), .call false (.f 14) [(.t 42)], none⟩ : IOper) ::
          (⟨(some 13), .mov (.t 41), none⟩ : IOper) ::
          (⟨(some 14), .mov (.t 43), none⟩ : IOper) ::
          []))
        (.seq
         (.seq
          (.reg ((⟨(some 44), .mov (.t 13), none⟩ : IOper) ::
            (⟨(some 45), .len (.t 44), none⟩ : IOper) ::
            (⟨(some 46), .mov (.t 14), none⟩ : IOper) ::
            (⟨(some 47), .len (.t 46), none⟩ : IOper) ::
            (⟨(some 48), .bin .neq (.t 45) (.t 47), none⟩ : IOper) ::
            []))
          (.cond (.t 48)
           (.seq
            (.reg ((⟨(some 4), .mov (.c (.kb false)), none⟩ : IOper) ::
              []))
            .ret)
           .skip))
         (.seq
          (.seq
           (.reg ((⟨(some 15), .mov (.c (.int .i64 0)), none⟩ : IOper) ::
             []))
           (.block 0
            (.loop
             (.seq
              (.seq
               (.reg ((⟨(some 49), .mov (.t 15), none⟩ : IOper) ::
                 (⟨(some 50), .mov (.t 13), none⟩ : IOper) ::
                 (⟨(some 51), .len (.t 50), none⟩ : IOper) ::
                 (⟨(some 52), .bin .lss (.t 49) (.t 51), none⟩ : IOper) ::
                 []))
               (.cond (.t 52)
                .skip
                (.exit 0)))
              (.seq
               (.block 1
                (.seq
                 (.regD (((⟨(some 55), .mov (.t 13), none⟩, []) : IOper × List Nat) ::
                   ((⟨(some 56), .mov (.t 15), none⟩, [0]) : IOper × List Nat) ::
                   ((⟨(some 57), .indexSl 1 (.t 55) (.t 56), none⟩, []) : IOper × List Nat) ::
                   ((⟨(some 58), .load none (.t 57), none⟩, []) : IOper × List Nat) ::
                   ((⟨(some 59), .mov (.t 14), none⟩, [0, 1, 2, 3]) : IOper × List Nat) ::
                   ((⟨(some 60), .mov (.t 15), none⟩, [0, 1, 2, 3, 4]) : IOper × List Nat) ::
                   ((⟨(some 61), .indexSl 1 (.t 59) (.t 60), none⟩, [0, 1, 2, 3]) : IOper × List Nat) ::
                   ((⟨(some 62), .load none (.t 61), none⟩, [0, 1, 2, 3]) : IOper × List Nat) ::
                   ((⟨(some 63), .bin .neq (.t 58) (.t 62), none⟩, []) : IOper × List Nat) ::
                   []))
                 (.cond (.t 63)
                  (.seq
                   (.reg ((⟨(some 4), .mov (.c (.kb false)), none⟩ : IOper) ::
                     []))
                   .ret)
                  .skip)))
               (.reg ((⟨(some 53), .mov (.t 15), none⟩ : IOper) ::
                 (⟨(some 54), .bin .add (.t 53) (.c (.int .i64 1)), none⟩ : IOper) ::
                 (⟨(some 15), .mov (.t 54), none⟩ : IOper) ::
                 [])))))))
          (.seq
           (.regD (((⟨(some 64), .load (some 5) (.t 5), none⟩, []) : IOper × List Nat) ::
             ((⟨(some 65), .load (some 6) (.t 7), none⟩, [0]) : IOper × List Nat) ::
             ((⟨(some 66), .call false (.f 15) [(.t 64), (.t 65)], none⟩, []) : IOper × List Nat) ::
             ((⟨(some 67), .mov (.t 66), none⟩, []) : IOper × List Nat) ::
             ((⟨(some 68), .mov (.t 6), (some (67, true))⟩, []) : IOper × List Nat) ::
             ((⟨(some 69), .mov (.t 8), (some (67, true))⟩, [4]) : IOper × List Nat) ::
             ((⟨(some 70), .eqb false (.t 68) (.t 69), (some (67, true))⟩, []) : IOper × List Nat) ::
             ((⟨(some 71), .pick (.t 67) (.t 70) (.c (.kb false)), none⟩, []) : IOper × List Nat) ::
             ((⟨(some 72), .mov (.t 71), none⟩, []) : IOper × List Nat) ::
             ((⟨(some 73), .mov (.t 0), (some (72, true))⟩, []) : IOper × List Nat) ::
             ((⟨(some 74), .call false (.f 16) [(.t 73)], (some (72, true))⟩, []) : IOper × List Nat) ::
             ((⟨(some 75), .fieldAddr 0 (.t 7), (some (72, true))⟩, [9, 10]) : IOper × List Nat) ::
             ((⟨(some 76), .load none (.t 75), (some (72, true))⟩, [9, 10]) : IOper × List Nat) ::
             ((⟨(some 77), .bin .eql (.t 74) (.t 76), (some (72, true))⟩, []) : IOper × List Nat) ::
             ((⟨(some 78), .pick (.t 72) (.t 77) (.c (.kb false)), none⟩, []) : IOper × List Nat) ::
             ((⟨(some 79), .mov (.t 78), none⟩, []) : IOper × List Nat) ::
             ((⟨(some 80), .mov (.t 9), (some (79, true))⟩, []) : IOper × List Nat) ::
             ((⟨(some 81), .mov (.t 11), (some (79, true))⟩, [16]) : IOper × List Nat) ::
             ((⟨(some 82), .bin .eql (.t 80) (.t 81), (some (79, true))⟩, []) : IOper × List Nat) ::
             ((⟨(some 83), .pick (.t 79) (.t 82) (.c (.kb false)), none⟩, []) : IOper × List Nat) ::
             ((⟨(some 84), .mov (.t 83), none⟩, []) : IOper × List Nat) ::
             ((⟨(some 85), .mov (.t 10), (some (84, true))⟩, []) : IOper × List Nat) ::
             ((⟨(some 86), .mov (.t 12), (some (84, true))⟩, [21]) : IOper × List Nat) ::
             ((⟨(some 87), .eqb false (.t 85) (.t 86), (some (84, true))⟩, []) : IOper × List Nat) ::
             ((⟨(some 88), .pick (.t 84) (.t 87) (.c (.kb false)), none⟩, []) : IOper × List Nat) ::
             ((⟨(some 89), .mov (.t 88), none⟩, []) : IOper × List Nat) ::
             ((⟨(some 90), .mov (.t 0), (some (89, true))⟩, []) : IOper × List Nat) ::
             ((⟨(some 91), .call false (.f 17) [(.t 90)], (some (89, true))⟩, []) : IOper × List Nat) ::
             ((⟨(some 92), .mov (.t 0), (some (89, true))⟩, [26, 27]) : IOper × List Nat) ::
             ((⟨(some 93), .call false (.f 18) [(.t 92)], (some (89, true))⟩, []) : IOper × List Nat) ::
             ((⟨(some 94), .eqb false (.t 91) (.t 93), (some (89, true))⟩, []) : IOper × List Nat) ::
             ((⟨(some 95), .pick (.t 89) (.t 94) (.c (.kb false)), none⟩, []) : IOper × List Nat) ::
             ((⟨(some 96), .mov (.t 95), none⟩, []) : IOper × List Nat) ::
             ((⟨(some 97), .call false (.f 6) [], (some (96, true))⟩, []) : IOper × List Nat) ::
             ((⟨(some 98), .pick (.t 96) (.t 97) (.c (.kb false)), none⟩, []) : IOper × List Nat) ::
             ((⟨(some 4), .mov (.t 98), none⟩, []) : IOper × List Nat) ::
             []))
           .ret))))))))))
def rd_l07_FieldTells : List RD := [.tmp 4 true none]
theorem ok_l07_FieldTells : fnOk Try.prog Try.f4 ir_l07_FieldTells rd_l07_FieldTells = true := by kernel_rfl
def ir_l07_sure : IR :=
 (.seq
  (.reg ((⟨(some 0), .mov (.c (.kb false)), none⟩ : IOper) ::
    []))
  (.seq
   (.reg ((⟨(some 6), .call false (.f 13) [(.c (.int .i64 31))], none⟩ : IOper) ::
     (⟨(some 1), .mov (.t 6), none⟩ : IOper) ::
     []))
   (.seq
    (.reg ((⟨(some 8), .call false (.f 11) [(.c (.str [105, 112, 118, 54, 95, 110, 100, 95, 116, 108, 108]))], none⟩ : IOper) ::
      (⟨(some 7), .mov (.t 8), none⟩ : IOper) ::
      (⟨(some 9), .extract (.t 7) 0, none⟩ : IOper) ::
      (⟨(some 10), .extract (.t 7) 1, none⟩ : IOper) ::
      (⟨(some 2), .mov (.t 9), none⟩ : IOper) ::
      (⟨(some 3), .mov (.t 10), none⟩ : IOper) ::
      []))
    (.seq
     (.reg ((⟨(some 12), .call false (.f 9) [(.c (.int .i64 33))], none⟩ : IOper) ::
       (⟨(some 11), .mov (.t 12), none⟩ : IOper) ::
       (⟨(some 13), .extract (.t 11) 0, none⟩ : IOper) ::
       (⟨(some 14), .extract (.t 11) 1, none⟩ : IOper) ::
       (⟨(some 4), .box [.int .i64 0, .int .i64 0, .kb false, .int .i64 0, .imm (.int .u64) []], none⟩ : IOper) ::
       (⟨none, .store 5 (.t 4) (.t 13), none⟩ : IOper) ::
       (⟨(some 5), .mov (.t 14), none⟩ : IOper) ::
       []))
     (.seq
      (.reg ((⟨(some 15), .mov (.t 1), none⟩ : IOper) ::
        (⟨(some 16), .len (.t 15), none⟩ : IOper) ::
        (⟨(some 17), .bin .eql (.t 16) (.c (.int .i64 3)), none⟩ : IOper) ::
        (⟨(some 18), .mov (.t 17), none⟩ : IOper) ::
        (⟨(some 19), .mov (.t 1), (some (18, true))⟩ : IOper) ::
        (⟨(some 20), .indexSl 1 (.t 19) (.c (.int .i64 0)), (some (18, true))⟩ : IOper) ::
        (⟨(some 21), .load none (.t 20), (some (18, true))⟩ : IOper) ::
        (⟨(some 22), .bin .eql (.t 21) (.c (.int .i64 5)), (some (18, true))⟩ : IOper) ::
        (⟨(some 23), .pick (.t 18) (.t 22) (.c (.kb false)), none⟩ : IOper) ::
        (⟨(some 24), .mov (.t 23), none⟩ : IOper) ::
        (⟨(some 25), .mov (.t 1), (some (24, true))⟩ : IOper) ::
        (⟨(some 26), .indexSl 1 (.t 25) (.c (.int .i64 1)), (some (24, true))⟩ : IOper) ::
        (⟨(some 27), .load none (.t 26), (some (24, true))⟩ : IOper) ::
        (⟨(some 28), .bin .eql (.t 27) (.c (.int .i64 10)), (some (24, true))⟩ : IOper) ::
        (⟨(some 29), .pick (.t 24) (.t 28) (.c (.kb false)), none⟩ : IOper) ::
        (⟨(some 30), .mov (.t 29), none⟩ : IOper) ::
        (⟨(some 31), .mov (.t 1), (some (30, true))⟩ : IOper) ::
        (⟨(some 32), .indexSl 1 (.t 31) (.c (.int .i64 2)), (some (30, true))⟩ : IOper) ::
        (⟨(some 33), .load none (.t 32), (some (30, true))⟩ : IOper) ::
        (⟨(some 34), .bin .eql (.t 33) (.c (.int .i64 29)), (some (30, true))⟩ : IOper) ::
        (⟨(some 35), .pick (.t 30) (.t 34) (.c (.kb false)), none⟩ : IOper) ::
        (⟨(some 36), .mov (.t 35), none⟩ : IOper) ::
        (⟨(some 37), .mov (.t 3), (some (36, true))⟩ : IOper) ::
        (⟨(some 38), .pick (.t 36) (.t 37) (.c (.kb false)), none⟩ : IOper) ::
        (⟨(some 39), .mov (.t 38), none⟩ : IOper) ::
        (⟨(some 40), .mov (.t 2), (some (39, true))⟩ : IOper) ::
        (⟨(some 41), .bin .eql (.t 40) (.c (.int .i64 33)), (some (39, true))⟩ : IOper) ::
        (⟨(some 42), .pick (.t 39) (.t 41) (.c (.kb false)), none⟩ : IOper) ::
        (⟨(some 43), .mov (.t 42), none⟩ : IOper) ::
        (⟨(some 44), .mov (.t 5), (some (43, true))⟩ : IOper) ::
        (⟨(some 45), .pick (.t 43) (.t 44) (.c (.kb false)), none⟩ : IOper) ::
        (⟨(some 46), .mov (.t 45), none⟩ : IOper) ::
        (⟨(some 47), .fieldAddr 3 (.t 4), (some (46, true))⟩ : IOper) ::
        (⟨(some 48), .load none (.t 47), (some (46, true))⟩ : IOper) ::
        (⟨(some 49), .bin .eql (.t 48) (.c (.int .i64 29)), (some (46, true))⟩ : IOper) ::
        (⟨(some 50), .pick (.t 46) (.t 49) (.c (.kb false)), none⟩ : IOper) ::
        (⟨(some 51), .mov (.t 50), none⟩ : IOper) ::
        (⟨(some 52), .fieldAddr 4 (.t 4), (some (51, true))⟩ : IOper) ::
        (⟨(some 53), .load none (.t 52), (some (51, true))⟩ : IOper) ::
        (⟨(some 54), .len (.t 53), (some (51, true))⟩ : IOper) ::
        (⟨(some 55), .bin .eql (.t 54) (.c (.int .i64 1)), (some (51, true))⟩ : IOper) ::
        (⟨(some 56), .pick (.t 51) (.t 55) (.c (.kb false)), none⟩ : IOper) ::
        (⟨(some 57), .mov (.t 56), none⟩ : IOper) ::
        (⟨(some 58), .fieldAddr 4 (.t 4), (some (57, true))⟩ : IOper) ::
        (⟨(some 59), .load none (.t 58), (some (57, true))⟩ : IOper) ::
        (⟨(some 60), .indexSl 1 (.t 59) (.c (.int .i64 0)), (some (57, true))⟩ : IOper) ::
        (⟨(some 61), .load none (.t 60), (some (57, true))⟩ : IOper) ::
        (⟨(some 62), .bin .eql (.t 61) (.c (.int .u64 136)), (some (57, true))⟩ : IOper) ::
        (⟨(some 63), .pick (.t 57) (.t 62) (.c (.kb false)), none⟩ : IOper) ::
        (⟨(some 64), .mov (.t 63), none⟩ : IOper) ::
        (⟨(some 65), .sliceAll (.int .u8) 1 [(0, 1, (.c (.int .u8 8)))], (some (64, true))⟩ : IOper) ::
        (⟨(some 66), .call false (.f 7) [(.c (.int .i64 7)), (.t 65)], (some (64, true))⟩ : IOper) ::
        (⟨(some 67), .un .not (.t 66), (some (64, true))⟩ : IOper) ::
        (⟨(some 68), .pick (.t 64) (.t 67) (.c (.kb false)), none⟩ : IOper) ::
        (⟨(some 69), .mov (.t 68), none⟩ : IOper) ::
        (⟨(some 70), .sliceAll (.int .u8) 1 [(0, 1, (.c (.int .u8 7)))], (some (69, true))⟩ : IOper) ::
        (⟨(some 71), .call false (.f 7) [(.c (.int .i64 7)), (.t 70)], (some (69, true))⟩ : IOper) ::
        (⟨(some 72), .pick (.t 69) (.t 71) (.c (.kb false)), none⟩ : IOper) ::
        (⟨(some 0), .mov (.t 72), none⟩ : IOper) ::
        []))
      .ret)))))
def rd_l07_sure : List RD := [.tmp 0 true none]
theorem ok_l07_sure : fnOk Try.prog Try.f6 ir_l07_sure rd_l07_sure = true := by kernel_rfl
def ir_field_Fits : IR :=
 (.seq
  (.reg ((⟨(some 4), .mov (.c (.kb false)), none⟩ : IOper) ::
    []))
  (.seq
   (.seq
    (.reg ((⟨(some 9), .mov (.t 0), none⟩ : IOper) ::
      (⟨(some 10), .call false (.f 19) [(.t 9)], none⟩ : IOper) ::
      (⟨(some 11), .un .not (.t 10), none⟩ : IOper) ::
      (⟨(some 12), .mov (.t 11), none⟩ : IOper) ::
      (⟨(some 13), .mov (.t 1), (some (12, false))⟩ : IOper) ::
      (⟨(some 14), .len (.t 13), (some (12, false))⟩ : IOper) ::
      (⟨(some 15), .mov (.t 0), (some (12, false))⟩ : IOper) ::
      (⟨(some 16), .call false (.f 20) [(.t 15)], (some (12, false))⟩ : IOper) ::
      (⟨(some 17), .bin .neq (.t 14) (.t 16), (some (12, false))⟩ : IOper) ::
      (⟨(some 18), .pick (.t 12) (.c (.kb true)) (.t 17), none⟩ : IOper) ::
      []))
    (.cond (.t 18)
     (.seq
      (.reg ((⟨(some 4), .mov (.c (.kb false)), none⟩ : IOper) ::
        []))
      .ret)
     .skip))
   (.seq
    (.reg ((⟨(some 19), .mov (.t 0), none⟩ : IOper) ::
      (⟨(some 20), .call false (.f 20) [(.t 19)], none⟩ : IOper) ::
      (⟨(some 21), .bin .mul (.c (.int .i64 8)) (.t 20), none⟩ : IOper) ::
      (⟨(some 22), .mov (.t 0), none⟩ : IOper) ::
      (⟨(some 23), .call false (.f 21) [(.t 22)], none⟩ : IOper) ::
      (⟨(some 24), .bin .sub (.t 21) (.t 23), none⟩ : IOper) ::
      (⟨(some 5), .mov (.t 24), none⟩ : IOper) ::
      []))
    (.seq
     (.seq
      (.reg ((⟨(some 25), .mov (.t 1), none⟩ : IOper) ::
        (⟨(some 26), .len (.t 25), none⟩ : IOper) ::
        (⟨(some 27), .mov (.c (.int .i64 0)), none⟩ : IOper) ::
        []))
      (.block 0
       (.loop
        (.seq
         (.reg ((⟨(some 28), .bin .lss (.t 27) (.t 26), none⟩ : IOper) ::
           []))
         (.seq
          (.cond (.t 28)
           .skip
           (.exit 0))
          (.seq
           (.block 1
            (.seq
             (.reg ((⟨(some 29), .indexSl 1 (.t 25) (.t 27), none⟩ : IOper) ::
               (⟨(some 30), .load none (.t 29), none⟩ : IOper) ::
               (⟨(some 7), .mov (.t 30), none⟩ : IOper) ::
               []))
             (.seq
              (.reg ((⟨(some 31), .mov (.t 5), none⟩ : IOper) ::
                (⟨(some 32), .minmax false (.t 31) (.c (.int .i64 8)), none⟩ : IOper) ::
                (⟨(some 8), .mov (.t 32), none⟩ : IOper) ::
                []))
              (.seq
               (.seq
                (.reg ((⟨(some 33), .mov (.t 7), none⟩ : IOper) ::
                  (⟨(some 34), .mov (.t 8), none⟩ : IOper) ::
                  (⟨(some 35), .bin .sub (.c (.int .i64 8)) (.t 34), none⟩ : IOper) ::
                  (⟨(some 36), .bin .shr (.t 33) (.t 35), none⟩ : IOper) ::
                  (⟨(some 37), .bin .neq (.t 36) (.c (.int .u8 0)), none⟩ : IOper) ::
                  []))
                (.cond (.t 37)
                 (.seq
                  (.reg ((⟨(some 4), .mov (.c (.kb false)), none⟩ : IOper) ::
                    []))
                  .ret)
                 .skip))
               (.reg ((⟨(some 38), .mov (.t 5), none⟩ : IOper) ::
                 (⟨(some 39), .mov (.t 8), none⟩ : IOper) ::
                 (⟨(some 40), .bin .sub (.t 38) (.t 39), none⟩ : IOper) ::
                 (⟨(some 5), .mov (.t 40), none⟩ : IOper) ::
                 []))))))
           (.reg ((⟨(some 41), .bin .add (.t 27) (.c (.int .i64 1)), none⟩ : IOper) ::
             (⟨(some 27), .mov (.t 41), none⟩ : IOper) ::
             []))))))))
     (.seq
      (.reg ((⟨(some 4), .mov (.c (.kb true)), none⟩ : IOper) ::
        []))
      .ret)))))
def rd_field_Fits : List RD := [.tmp 4 true none]
theorem ok_field_Fits : fnOk Try.prog Try.f7 ir_field_Fits rd_field_Fits = true := by kernel_rfl
def ir_field_Of : IR :=
 (.seq
  (.reg ((⟨(some 2), .box [.int .i64 0, .int .i64 0, .kb false, .int .i64 0, .imm (.int .u64) []], none⟩ : IOper) ::
    (⟨(some 3), .mov (.c (.kb false)), none⟩ : IOper) ::
    []))
  (.seq
   (.seq
    (.reg ((⟨(some 5), .mov (.t 0), none⟩ : IOper) ::
      (⟨(some 6), .call false (.f 19) [(.t 5)], none⟩ : IOper) ::
      (⟨(some 7), .un .not (.t 6), none⟩ : IOper) ::
      []))
    (.cond (.t 7)
     (.seq
      (.reg ((⟨(some 8), .build [.int .i64 0, .int .i64 0, .kb false, .int .i64 0, .imm (.int .u64) []] [], none⟩ : IOper) ::
        (⟨none, .store 5 (.t 2) (.t 8), none⟩ : IOper) ::
        (⟨(some 3), .mov (.c (.kb false)), none⟩ : IOper) ::
        []))
      .ret)
     .skip))
   (.seq
    (.reg ((⟨(some 9), .mov (.t 0), none⟩ : IOper) ::
      (⟨(some 10), .call false (.f 21) [(.t 9)], none⟩ : IOper) ::
      (⟨(some 11), .mov (.t 0), none⟩ : IOper) ::
      (⟨(some 12), .call false (.f 20) [(.t 11)], none⟩ : IOper) ::
      (⟨(some 13), .mov (.t 0), none⟩ : IOper) ::
      (⟨(some 14), .call false (.f 22) [(.t 13)], none⟩ : IOper) ::
      (⟨(some 15), .build [.int .i64 0, .int .i64 0, .kb false, .int .i64 0, .imm (.int .u64) []] [(0, 1, (.t 10)), (1, 1, (.t 12)), (2, 1, (.t 14))], none⟩ : IOper) ::
      (⟨(some 4), .box [.int .i64 0, .int .i64 0, .kb false, .int .i64 0, .imm (.int .u64) []], none⟩ : IOper) ::
      (⟨none, .store 5 (.t 4) (.t 15), none⟩ : IOper) ::
      []))
    (.seq
     (.reg ((⟨(some 17), .mov (.t 0), none⟩ : IOper) ::
       (⟨(some 18), .call false (.f 23) [(.t 17)], none⟩ : IOper) ::
       (⟨(some 16), .mov (.t 18), none⟩ : IOper) ::
       (⟨(some 19), .extract (.t 16) 0, none⟩ : IOper) ::
       (⟨(some 20), .extract (.t 16) 1, none⟩ : IOper) ::
       (⟨(some 21), .fieldAddr 3 (.t 4), none⟩ : IOper) ::
       (⟨none, .store 1 (.t 21) (.t 19), none⟩ : IOper) ::
       (⟨(some 22), .fieldAddr 4 (.t 4), none⟩ : IOper) ::
       (⟨none, .store 1 (.t 22) (.t 20), none⟩ : IOper) ::
       []))
     (.seq
      (.reg ((⟨(some 23), .load (some 5) (.t 4), none⟩ : IOper) ::
        (⟨none, .store 5 (.t 2) (.t 23), none⟩ : IOper) ::
        (⟨(some 3), .mov (.c (.kb true)), none⟩ : IOper) ::
        []))
      .ret)))))
def rd_field_Of : List RD := [.cell 2 (some 5) true, .tmp 3 true none]
theorem ok_field_Of : fnOk Try.prog Try.f9 ir_field_Of rd_field_Of = true := by kernel_rfl
def ir_r07_Of : IR :=
 (.seq
  (.reg ((⟨(some 2), .box [.str [], .int .i64 0, .int .i64 0, .kb false, .int .i64 0, .imm (.int .u64) []], none⟩ : IOper) ::
    (⟨(some 3), .mov (.c (.kb false)), none⟩ : IOper) ::
    []))
  (.seq
   (.reg ((⟨(some 5), .call false (.f 24) [], none⟩ : IOper) ::
     (⟨(some 4), .mov (.t 5), none⟩ : IOper) ::
     []))
   (.seq
    (.seq
     (.reg ((⟨(some 6), .mov (.t 0), none⟩ : IOper) ::
       (⟨(some 7), .bin .lss (.t 6) (.c (.int .i64 0)), none⟩ : IOper) ::
       (⟨(some 8), .mov (.t 7), none⟩ : IOper) ::
       (⟨(some 9), .mov (.t 0), (some (8, false))⟩ : IOper) ::
       (⟨(some 10), .mov (.t 4), (some (8, false))⟩ : IOper) ::
       (⟨(some 11), .len (.t 10), (some (8, false))⟩ : IOper) ::
       (⟨(some 12), .bin .geq (.t 9) (.t 11), (some (8, false))⟩ : IOper) ::
       (⟨(some 13), .pick (.t 8) (.c (.kb true)) (.t 12), none⟩ : IOper) ::
       []))
     (.cond (.t 13)
      (.seq
       (.reg ((⟨(some 14), .build [.str [], .int .i64 0, .int .i64 0, .kb false, .int .i64 0, .imm (.int .u64) []] [], none⟩ : IOper) ::
         (⟨none, .store 6 (.t 2) (.t 14), none⟩ : IOper) ::
         (⟨(some 3), .mov (.c (.kb false)), none⟩ : IOper) ::
         []))
       .ret)
      .skip))
    (.seq
     (.reg ((⟨(some 15), .mov (.t 4), none⟩ : IOper) ::
       (⟨(some 16), .mov (.t 0), none⟩ : IOper) ::
       (⟨(some 17), .indexSl 6 (.t 15) (.t 16), none⟩ : IOper) ::
       (⟨(some 18), .load (some 6) (.t 17), none⟩ : IOper) ::
       (⟨none, .store 6 (.t 2) (.t 18), none⟩ : IOper) ::
       (⟨(some 3), .mov (.c (.kb true)), none⟩ : IOper) ::
       []))
     .ret))))
def rd_r07_Of : List RD := [.cell 2 (some 6) true, .tmp 3 true none]
theorem ok_r07_Of : fnOk Try.prog Try.f10 ir_r07_Of rd_r07_Of = true := by kernel_rfl
def ir_field_Find : IR :=
 (.seq
  (.reg ((⟨(some 2), .mov (.c (.int .i64 0)), none⟩ : IOper) ::
    (⟨(some 3), .mov (.c (.kb false)), none⟩ : IOper) ::
    []))
  (.seq
   (.reg ((⟨(some 6), .call false (.f 25) [], none⟩ : IOper) ::
     (⟨(some 4), .box [.str [], .str [], .str [], .str [], .str [], .str [], .str [], .str [], .str [], .str [], .str [], .str [], .str [], .str [], .str [], .str [], .str [], .str [], .str [], .str [], .str [], .str [], .str [], .str [], .str [], .str [], .str [], .str [], .str [], .str [], .str [], .str [], .str [], .str [], .str [], .str [], .str [], .str [], .str [], .str []], none⟩ : IOper) ::
     (⟨none, .store 40 (.t 4) (.t 6), none⟩ : IOper) ::
     []))
   (.seq
    (.reg ((⟨(some 7), .sarr .str 40 (.t 4), none⟩ : IOper) ::
      (⟨(some 8), .mov (.t 0), none⟩ : IOper) ::
      (⟨(some 9), .call false (.f 26) [(.t 7), (.t 8)], none⟩ : IOper) ::
      (⟨(some 5), .mov (.t 9), none⟩ : IOper) ::
      []))
    (.seq
     (.reg ((⟨(some 10), .mov (.t 5), none⟩ : IOper) ::
       (⟨(some 11), .minmax true (.t 10) (.c (.int .i64 0)), none⟩ : IOper) ::
       (⟨(some 12), .mov (.t 5), none⟩ : IOper) ::
       (⟨(some 13), .bin .geq (.t 12) (.c (.int .i64 0)), none⟩ : IOper) ::
       (⟨(some 2), .mov (.t 11), none⟩ : IOper) ::
       (⟨(some 3), .mov (.t 13), none⟩ : IOper) ::
       []))
     .ret))))
def rd_field_Find : List RD := [.tmp 2 true none, .tmp 3 true none]
theorem ok_field_Find : fnOk Try.prog Try.f11 ir_field_Find rd_field_Find = true := by kernel_rfl
def ir_r07_Find : IR :=
 (.seq
  (.reg ((⟨(some 2), .mov (.c (.int .i64 0)), none⟩ : IOper) ::
    (⟨(some 3), .mov (.c (.kb false)), none⟩ : IOper) ::
    []))
  (.seq
   (.reg ((⟨(some 6), .call false (.f 24) [], none⟩ : IOper) ::
     (⟨(some 4), .mov (.t 6), none⟩ : IOper) ::
     []))
   (.seq
    (.seq
     (.reg ((⟨(some 5), .mov (.c (.int .i64 0)), none⟩ : IOper) ::
       []))
     (.block 0
      (.loop
       (.seq
        (.seq
         (.reg ((⟨(some 7), .mov (.t 5), none⟩ : IOper) ::
           (⟨(some 8), .mov (.t 4), none⟩ : IOper) ::
           (⟨(some 9), .len (.t 8), none⟩ : IOper) ::
           (⟨(some 10), .bin .lss (.t 7) (.t 9), none⟩ : IOper) ::
           []))
         (.cond (.t 10)
          .skip
          (.exit 0)))
        (.seq
         (.block 1
          (.seq
           (.reg ((⟨(some 13), .mov (.t 4), none⟩ : IOper) ::
             (⟨(some 14), .mov (.t 5), none⟩ : IOper) ::
             (⟨(some 15), .indexSl 6 (.t 13) (.t 14), none⟩ : IOper) ::
             (⟨(some 16), .fieldAddr 0 (.t 15), none⟩ : IOper) ::
             (⟨(some 17), .load none (.t 16), none⟩ : IOper) ::
             (⟨(some 18), .mov (.t 0), none⟩ : IOper) ::
             (⟨(some 19), .bin .eql (.t 17) (.t 18), none⟩ : IOper) ::
             []))
           (.cond (.t 19)
            (.seq
             (.reg ((⟨(some 20), .mov (.t 5), none⟩ : IOper) ::
               (⟨(some 2), .mov (.t 20), none⟩ : IOper) ::
               (⟨(some 3), .mov (.c (.kb true)), none⟩ : IOper) ::
               []))
             .ret)
            .skip)))
         (.reg ((⟨(some 11), .mov (.t 5), none⟩ : IOper) ::
           (⟨(some 12), .bin .add (.t 11) (.c (.int .i64 1)), none⟩ : IOper) ::
           (⟨(some 5), .mov (.t 12), none⟩ : IOper) ::
           [])))))))
    (.seq
     (.reg ((⟨(some 2), .mov (.c (.int .i64 0)), none⟩ : IOper) ::
       (⟨(some 3), .mov (.c (.kb false)), none⟩ : IOper) ::
       []))
     .ret))))
def rd_r07_Find : List RD := [.tmp 2 true none, .tmp 3 true none]
theorem ok_r07_Find : fnOk Try.prog Try.f12 ir_r07_Find rd_r07_Find = true := by kernel_rfl
def ir_field_Needs : IR :=
 (.seq
  (.reg ((⟨(some 2), .mov (.c (.nils)), none⟩ : IOper) ::
    []))
  (.seq
   (.seq
    (.reg ((⟨(some 3), .mov (.t 0), none⟩ : IOper) ::
      (⟨(some 4), .call false (.f 19) [(.t 3)], none⟩ : IOper) ::
      (⟨(some 5), .un .not (.t 4), none⟩ : IOper) ::
      []))
    (.cond (.t 5)
     (.seq
      (.reg ((⟨(some 2), .mov (.c (.nils)), none⟩ : IOper) ::
        []))
      .ret)
     .skip))
   (.seq
    (.seq
     (.reg ((⟨(some 7), .mov (.t 0), none⟩ : IOper) ::
       (⟨(some 8), .call false (.f 23) [(.t 7)], none⟩ : IOper) ::
       (⟨(some 6), .mov (.t 8), none⟩ : IOper) ::
       (⟨(some 9), .extract (.t 6) 0, none⟩ : IOper) ::
       (⟨(some 10), .extract (.t 6) 1, none⟩ : IOper) ::
       (⟨(some 0), .mov (.t 9), none⟩ : IOper) ::
       []))
     (.block 0
      (.loop
       (.seq
        (.seq
         (.reg ((⟨(some 11), .mov (.t 0), none⟩ : IOper) ::
           (⟨(some 12), .bin .neq (.t 11) (.c (.int .i64 (-1))), none⟩ : IOper) ::
           []))
         (.cond (.t 12)
          .skip
          (.exit 0)))
        (.seq
         (.block 1
          (.reg ((⟨(some 18), .mov (.t 2), none⟩ : IOper) ::
            (⟨(some 19), .mov (.t 0), none⟩ : IOper) ::
            (⟨(some 20), .sliceAll (.int .i64) 1 [(0, 1, (.t 19))], none⟩ : IOper) ::
            (⟨(some 21), .append (.int .i64) 8 (.t 18) (.t 20), none⟩ : IOper) ::
            (⟨(some 2), .mov (.t 21), none⟩ : IOper) ::
            [])))
         (.reg ((⟨(some 14), .mov (.t 0), none⟩ : IOper) ::
           (⟨(some 15), .call false (.f 23) [(.t 14)], none⟩ : IOper) ::
           (⟨(some 13), .mov (.t 15), none⟩ : IOper) ::
           (⟨(some 16), .extract (.t 13) 0, none⟩ : IOper) ::
           (⟨(some 17), .extract (.t 13) 1, none⟩ : IOper) ::
           (⟨(some 0), .mov (.t 16), none⟩ : IOper) ::
           [])))))))
    (.seq
     (.reg ((⟨(some 22), .mov (.t 2), none⟩ : IOper) ::
       (⟨(some 23), .call true (.f 27) [(.t 22)], none⟩ : IOper) ::
       []))
     (.seq
      (.reg ((⟨(some 24), .mov (.t 2), none⟩ : IOper) ::
        (⟨(some 2), .mov (.t 24), none⟩ : IOper) ::
        []))
      .ret)))))
def rd_field_Needs : List RD := [.tmp 2 true (some (.int .i64))]
theorem ok_field_Needs : fnOk Try.prog Try.f13 ir_field_Needs rd_field_Needs = true := by kernel_rfl
def ir_r07_Needs : IR :=
 (.seq
  (.reg ((⟨(some 2), .mov (.c (.nils)), none⟩ : IOper) ::
    []))
  (.seq
   (.reg ((⟨(some 6), .mov (.t 0), none⟩ : IOper) ::
     (⟨(some 7), .call false (.f 10) [(.t 6)], none⟩ : IOper) ::
     (⟨(some 5), .mov (.t 7), none⟩ : IOper) ::
     (⟨(some 8), .extract (.t 5) 0, none⟩ : IOper) ::
     (⟨(some 9), .extract (.t 5) 1, none⟩ : IOper) ::
     (⟨(some 3), .box [.str [], .int .i64 0, .int .i64 0, .kb false, .int .i64 0, .imm (.int .u64) []], none⟩ : IOper) ::
     (⟨none, .store 6 (.t 3) (.t 8), none⟩ : IOper) ::
     (⟨(some 4), .mov (.t 9), none⟩ : IOper) ::
     []))
   (.seq
    (.seq
     (.reg ((⟨(some 10), .mov (.t 4), none⟩ : IOper) ::
       (⟨(some 11), .un .not (.t 10), none⟩ : IOper) ::
       (⟨(some 12), .mov (.t 11), none⟩ : IOper) ::
       (⟨(some 13), .fieldAddr 4 (.t 3), (some (12, false))⟩ : IOper) ::
       (⟨(some 14), .load none (.t 13), (some (12, false))⟩ : IOper) ::
       (⟨(some 15), .bin .lss (.t 14) (.c (.int .i64 0)), (some (12, false))⟩ : IOper) ::
       (⟨(some 16), .pick (.t 12) (.c (.kb true)) (.t 15), none⟩ : IOper) ::
       []))
     (.cond (.t 16)
      (.seq
       (.reg ((⟨(some 2), .mov (.c (.nils)), none⟩ : IOper) ::
         []))
       .ret)
      .skip))
    (.seq
     (.regD (((⟨(some 17), .fieldAddr 4 (.t 3), none⟩, []) : IOper × List Nat) ::
       ((⟨(some 18), .load none (.t 17), none⟩, []) : IOper × List Nat) ::
       ((⟨(some 19), .call false (.f 14) [(.t 18)], none⟩, []) : IOper × List Nat) ::
       ((⟨(some 20), .fieldAddr 4 (.t 3), none⟩, [0, 1, 2]) : IOper × List Nat) ::
       ((⟨(some 21), .load none (.t 20), none⟩, [0, 1, 2]) : IOper × List Nat) ::
       ((⟨(some 22), .sliceAll (.int .i64) 1 [(0, 1, (.t 21))], none⟩, [0, 1, 2]) : IOper × List Nat) ::
       ((⟨(some 23), .append (.int .i64) 8 (.t 19) (.t 22), none⟩, []) : IOper × List Nat) ::
       ((⟨(some 2), .mov (.t 23), none⟩, []) : IOper × List Nat) ::
       []))
     .ret))))
def rd_r07_Needs : List RD := [.tmp 2 false none]
theorem ok_r07_Needs : fnOk Try.prog Try.f14 ir_r07_Needs rd_r07_Needs = true := by kernel_rfl
def ir_l07_same : IR :=
 (.seq
  (.reg ((⟨(some 2), .boxv (.t 0), none⟩ : IOper) ::
    (⟨(some 3), .boxv (.t 1), none⟩ : IOper) ::
    (⟨(some 4), .mov (.c (.kb false)), none⟩ : IOper) ::
    []))
  (.seq
   (.seq
    (.reg ((⟨(some 6), .fieldAddr 0 (.t 2), none⟩ : IOper) ::
      (⟨(some 7), .load none (.t 6), none⟩ : IOper) ::
      (⟨(some 8), .fieldAddr 1 (.t 3), none⟩ : IOper) ::
      (⟨(some 9), .load none (.t 8), none⟩ : IOper) ::
      (⟨(some 10), .bin .neq (.t 7) (.t 9), none⟩ : IOper) ::
      (⟨(some 11), .mov (.t 10), none⟩ : IOper) ::
      (⟨(some 12), .fieldAddr 1 (.t 2), (some (11, false))⟩ : IOper) ::
      (⟨(some 13), .load none (.t 12), (some (11, false))⟩ : IOper) ::
      (⟨(some 14), .fieldAddr 2 (.t 3), (some (11, false))⟩ : IOper) ::
      (⟨(some 15), .load none (.t 14), (some (11, false))⟩ : IOper) ::
      (⟨(some 16), .bin .neq (.t 13) (.t 15), (some (11, false))⟩ : IOper) ::
      (⟨(some 17), .pick (.t 11) (.c (.kb true)) (.t 16), none⟩ : IOper) ::
      (⟨(some 18), .mov (.t 17), none⟩ : IOper) ::
      (⟨(some 19), .fieldAddr 2 (.t 2), (some (18, false))⟩ : IOper) ::
      (⟨(some 20), .load none (.t 19), (some (18, false))⟩ : IOper) ::
      (⟨(some 21), .fieldAddr 3 (.t 3), (some (18, false))⟩ : IOper) ::
      (⟨(some 22), .load none (.t 21), (some (18, false))⟩ : IOper) ::
      (⟨(some 23), .eqb true (.t 20) (.t 22), (some (18, false))⟩ : IOper) ::
      (⟨(some 24), .pick (.t 18) (.c (.kb true)) (.t 23), none⟩ : IOper) ::
      (⟨(some 25), .mov (.t 24), none⟩ : IOper) ::
      (⟨(some 26), .fieldAddr 3 (.t 2), (some (25, false))⟩ : IOper) ::
      (⟨(some 27), .load none (.t 26), (some (25, false))⟩ : IOper) ::
      (⟨(some 28), .fieldAddr 4 (.t 3), (some (25, false))⟩ : IOper) ::
      (⟨(some 29), .load none (.t 28), (some (25, false))⟩ : IOper) ::
      (⟨(some 30), .bin .neq (.t 27) (.t 29), (some (25, false))⟩ : IOper) ::
      (⟨(some 31), .pick (.t 25) (.c (.kb true)) (.t 30), none⟩ : IOper) ::
      (⟨(some 32), .mov (.t 31), none⟩ : IOper) ::
      (⟨(some 33), .fieldAddr 4 (.t 2), (some (32, false))⟩ : IOper) ::
      (⟨(some 34), .load none (.t 33), (some (32, false))⟩ : IOper) ::
      (⟨(some 35), .len (.t 34), (some (32, false))⟩ : IOper) ::
      (⟨(some 36), .fieldAddr 5 (.t 3), (some (32, false))⟩ : IOper) ::
      (⟨(some 37), .load none (.t 36), (some (32, false))⟩ : IOper) ::
      (⟨(some 38), .len (.t 37), (some (32, false))⟩ : IOper) ::
      (⟨(some 39), .bin .neq (.t 35) (.t 38), (some (32, false))⟩ : IOper) ::
      (⟨(some 40), .pick (.t 32) (.c (.kb true)) (.t 39), none⟩ : IOper) ::
      []))
    (.cond (.t 40)
     (.seq
      (.reg ((⟨(some 4), .mov (.c (.kb false)), none⟩ : IOper) ::
        []))
      .ret)
     .skip))
   (.seq
    (.seq
     (.reg ((⟨(some 5), .mov (.c (.int .i64 0)), none⟩ : IOper) ::
       []))
     (.block 0
      (.loop
       (.seq
        (.seq
         (.reg ((⟨(some 41), .mov (.t 5), none⟩ : IOper) ::
           (⟨(some 42), .fieldAddr 4 (.t 2), none⟩ : IOper) ::
           (⟨(some 43), .load none (.t 42), none⟩ : IOper) ::
           (⟨(some 44), .len (.t 43), none⟩ : IOper) ::
           (⟨(some 45), .bin .lss (.t 41) (.t 44), none⟩ : IOper) ::
           []))
         (.cond (.t 45)
          .skip
          (.exit 0)))
        (.seq
         (.block 1
          (.seq
           (.regD (((⟨(some 48), .fieldAddr 4 (.t 2), none⟩, []) : IOper × List Nat) ::
             ((⟨(some 49), .load none (.t 48), none⟩, []) : IOper × List Nat) ::
             ((⟨(some 50), .mov (.t 5), none⟩, [0, 1]) : IOper × List Nat) ::
             ((⟨(some 51), .indexSl 1 (.t 49) (.t 50), none⟩, []) : IOper × List Nat) ::
             ((⟨(some 52), .load none (.t 51), none⟩, []) : IOper × List Nat) ::
             ((⟨(some 53), .fieldAddr 5 (.t 3), none⟩, [0, 1, 2, 3, 4]) : IOper × List Nat) ::
             ((⟨(some 54), .load none (.t 53), none⟩, [0, 1, 2, 3, 4]) : IOper × List Nat) ::
             ((⟨(some 55), .mov (.t 5), none⟩, [0, 1, 2, 3, 4, 5, 6]) : IOper × List Nat) ::
             ((⟨(some 56), .indexSl 1 (.t 54) (.t 55), none⟩, [0, 1, 2, 3, 4]) : IOper × List Nat) ::
             ((⟨(some 57), .load none (.t 56), none⟩, [0, 1, 2, 3, 4]) : IOper × List Nat) ::
             ((⟨(some 58), .bin .neq (.t 52) (.t 57), none⟩, []) : IOper × List Nat) ::
             []))
           (.cond (.t 58)
            (.seq
             (.reg ((⟨(some 4), .mov (.c (.kb false)), none⟩ : IOper) ::
               []))
             .ret)
            .skip)))
         (.reg ((⟨(some 46), .mov (.t 5), none⟩ : IOper) ::
           (⟨(some 47), .bin .add (.t 46) (.c (.int .i64 1)), none⟩ : IOper) ::
           (⟨(some 5), .mov (.t 47), none⟩ : IOper) ::
           [])))))))
    (.seq
     (.reg ((⟨(some 4), .mov (.c (.kb true)), none⟩ : IOper) ::
       []))
     .ret))))
def rd_l07_same : List RD := [.tmp 4 true none]
theorem ok_l07_same : fnOk Try.prog Try.f15 ir_l07_same rd_l07_same = true := by kernel_rfl
def ir_field_Name : IR :=
 (.seq
  (.reg ((⟨(some 2), .mov (.c (.str [])), none⟩ : IOper) ::
    []))
  (.seq
   (.seq
    (.reg ((⟨(some 3), .mov (.t 0), none⟩ : IOper) ::
      (⟨(some 4), .call false (.f 19) [(.t 3)], none⟩ : IOper) ::
      (⟨(some 5), .un .not (.t 4), none⟩ : IOper) ::
      []))
    (.cond (.t 5)
     (.seq
      (.reg ((⟨(some 2), .mov (.c (.str [])), none⟩ : IOper) ::
        []))
      .ret)
     .skip))
   (.seq
    (.reg ((⟨(some 6), .call false (.f 25) [], none⟩ : IOper) ::
      (⟨(some 7), .mov (.t 0), none⟩ : IOper) ::
      (⟨(some 8), .pickS 40 (.t 6) (.t 7), none⟩ : IOper) ::
      (⟨(some 2), .mov (.t 8), none⟩ : IOper) ::
      []))
    .ret)))
def rd_field_Name : List RD := [.tmp 2 true none]
theorem ok_field_Name : fnOk Try.prog Try.f16 ir_field_Name rd_field_Name = true := by kernel_rfl
def ir_field_Settable : IR :=
 (.seq
  (.reg ((⟨(some 2), .mov (.c (.kb false)), none⟩ : IOper) ::
    []))
  (.seq
   (.reg ((⟨(some 3), .mov (.t 0), none⟩ : IOper) ::
     (⟨(some 4), .call false (.f 19) [(.t 3)], none⟩ : IOper) ::
     (⟨(some 5), .mov (.t 4), none⟩ : IOper) ::
     (⟨(some 6), .mov (.t 0), (some (5, true))⟩ : IOper) ::
     (⟨(some 7), .bin .gtr (.t 6) (.c (.int .i64 2)), (some (5, true))⟩ : IOper) ::
     (⟨(some 8), .pick (.t 5) (.t 7) (.c (.kb false)), none⟩ : IOper) ::
     (⟨(some 9), .mov (.t 8), none⟩ : IOper) ::
     (⟨(some 10), .mov (.t 0), (some (9, true))⟩ : IOper) ::
     (⟨(some 11), .bin .neq (.t 10) (.c (.int .i64 39)), (some (9, true))⟩ : IOper) ::
     (⟨(some 12), .pick (.t 9) (.t 11) (.c (.kb false)), none⟩ : IOper) ::
     (⟨(some 2), .mov (.t 12), none⟩ : IOper) ::
     []))
   .ret))
def rd_field_Settable : List RD := [.tmp 2 true none]
theorem ok_field_Settable : fnOk Try.prog Try.f17 ir_field_Settable rd_field_Settable = true := by kernel_rfl
def ir_r07_Settable : IR :=
 (.seq
  (.reg ((⟨(some 2), .mov (.c (.kb false)), none⟩ : IOper) ::
    []))
  (.seq
   (.reg ((⟨(some 6), .mov (.t 0), none⟩ : IOper) ::
     (⟨(some 7), .call false (.f 10) [(.t 6)], none⟩ : IOper) ::
     (⟨(some 5), .mov (.t 7), none⟩ : IOper) ::
     (⟨(some 8), .extract (.t 5) 0, none⟩ : IOper) ::
     (⟨(some 9), .extract (.t 5) 1, none⟩ : IOper) ::
     (⟨(some 3), .box [.str [], .int .i64 0, .int .i64 0, .kb false, .int .i64 0, .imm (.int .u64) []], none⟩ : IOper) ::
     (⟨none, .store 6 (.t 3) (.t 8), none⟩ : IOper) ::
     (⟨(some 4), .mov (.t 9), none⟩ : IOper) ::
     []))
   (.seq
    (.reg ((⟨(some 10), .mov (.t 4), none⟩ : IOper) ::
      (⟨(some 11), .mov (.t 10), none⟩ : IOper) ::
      (⟨(some 12), .mov (.t 0), (some (11, true))⟩ : IOper) ::
      (⟨(some 13), .bin .gtr (.t 12) (.c (.int .i64 2)), (some (11, true))⟩ : IOper) ::
      (⟨(some 14), .pick (.t 11) (.t 13) (.c (.kb false)), none⟩ : IOper) ::
      (⟨(some 15), .mov (.t 14), none⟩ : IOper) ::
      (⟨(some 16), .mov (.t 0), (some (15, true))⟩ : IOper) ::
      (⟨(some 17), .bin .neq (.t 16) (.c (.int .i64 39)), (some (15, true))⟩ : IOper) ::
      (⟨(some 18), .pick (.t 15) (.t 17) (.c (.kb false)), none⟩ : IOper) ::
      (⟨(some 2), .mov (.t 18), none⟩ : IOper) ::
      []))
    .ret)))
def rd_r07_Settable : List RD := [.tmp 2 true none]
theorem ok_r07_Settable : fnOk Try.prog Try.f18 ir_r07_Settable rd_r07_Settable = true := by kernel_rfl
def ir_field_is : IR :=
 (.seq
  (.reg ((⟨(some 2), .mov (.c (.kb false)), none⟩ : IOper) ::
    []))
  (.seq
   (.reg ((⟨(some 3), .mov (.t 0), none⟩ : IOper) ::
     (⟨(some 4), .bin .geq (.t 3) (.c (.int .i64 0)), none⟩ : IOper) ::
     (⟨(some 5), .mov (.t 4), none⟩ : IOper) ::
     (⟨(some 6), .mov (.t 0), (some (5, true))⟩ : IOper) ::
     (⟨(some 7), .bin .lss (.t 6) (.c (.int .i64 40)), (some (5, true))⟩ : IOper) ::
     (⟨(some 8), .pick (.t 5) (.t 7) (.c (.kb false)), none⟩ : IOper) ::
     (⟨(some 2), .mov (.t 8), none⟩ : IOper) ::
     []))
   .ret))
def rd_field_is : List RD := [.tmp 2 true none]
theorem ok_field_is : fnOk Try.prog Try.f19 ir_field_is rd_field_is = true := by kernel_rfl
def ir_field_size : IR :=
 (.seq
  (.reg ((⟨(some 2), .mov (.c (.int .i64 0)), none⟩ : IOper) ::
    []))
  (.seq
   (.seq
    (.reg ((⟨(some 3), .mov (.t 0), none⟩ : IOper) ::
      []))
    (.block 0
     (.seq
      (.seq
       (.reg ((⟨(some 5), .bin .eql (.t 3) (.c (.int .i64 28)), none⟩ : IOper) ::
         (⟨(some 4), .mov (.t 5), none⟩ : IOper) ::
         []))
       (.cond (.t 4)
        .skip
        (.reg ((⟨(some 6), .bin .eql (.t 3) (.c (.int .i64 34)), none⟩ : IOper) ::
          (⟨(some 4), .mov (.t 6), none⟩ : IOper) ::
          []))))
      (.cond (.t 4)
       (.seq
        (.reg ((⟨(some 2), .mov (.c (.int .i64 4)), none⟩ : IOper) ::
          []))
        .ret)
       .skip))))
   (.seq
    (.reg ((⟨(some 7), .mov (.t 0), none⟩ : IOper) ::
      (⟨(some 8), .call false (.f 21) [(.t 7)], none⟩ : IOper) ::
      (⟨(some 9), .bin .add (.t 8) (.c (.int .i64 8)), none⟩ : IOper) ::
      (⟨(some 10), .bin .sub (.t 9) (.c (.int .i64 1)), none⟩ : IOper) ::
      (⟨(some 11), .bin .quo (.t 10) (.c (.int .i64 8)), none⟩ : IOper) ::
      (⟨(some 2), .mov (.t 11), none⟩ : IOper) ::
      []))
    .ret)))
def rd_field_size : List RD := [.tmp 2 true none]
theorem ok_field_size : fnOk Try.prog Try.f20 ir_field_size rd_field_size = true := by kernel_rfl
def ir_field_bits : IR :=
 (.seq
  (.reg ((⟨(some 2), .mov (.c (.int .i64 0)), none⟩ : IOper) ::
    []))
  (.seq
   (.reg ((⟨(some 4), .buildAll 40 [(0, 1, (.c (.int .i64 32))), (1, 1, (.c (.int .i64 32))), (2, 1, (.c (.int .i64 64))), (3, 1, (.c (.int .i64 48))), (4, 1, (.c (.int .i64 48))), (5, 1, (.c (.int .i64 16))), (6, 1, (.c (.int .i64 13))), (7, 1, (.c (.int .i64 3))), (8, 1, (.c (.int .i64 6))), (9, 1, (.c (.int .i64 2))), (10, 1, (.c (.int .i64 8))), (11, 1, (.c (.int .i64 32))), (12, 1, (.c (.int .i64 32))), (13, 1, (.c (.int .i64 16))), (14, 1, (.c (.int .i64 16))), (15, 1, (.c (.int .i64 16))), (16, 1, (.c (.int .i64 16))), (17, 1, (.c (.int .i64 16))), (18, 1, (.c (.int .i64 16))), (19, 1, (.c (.int .i64 8))), (20, 1, (.c (.int .i64 8))), (21, 1, (.c (.int .i64 16))), (22, 1, (.c (.int .i64 32))), (23, 1, (.c (.int .i64 32))), (24, 1, (.c (.int .i64 48))), (25, 1, (.c (.int .i64 48))), (26, 1, (.c (.int .i64 128))), (27, 1, (.c (.int .i64 128))), (28, 1, (.c (.int .i64 20))), (29, 1, (.c (.int .i64 8))), (30, 1, (.c (.int .i64 8))), (31, 1, (.c (.int .i64 128))), (32, 1, (.c (.int .i64 48))), (33, 1, (.c (.int .i64 48))), (34, 1, (.c (.int .i64 20))), (35, 1, (.c (.int .i64 3))), (36, 1, (.c (.int .i64 1))), (37, 1, (.c (.int .i64 24))), (38, 1, (.c (.int .i64 64))), (39, 1, (.c (.int .i64 9)))], none⟩ : IOper) ::
     (⟨(some 3), .box [.int .i64 0, .int .i64 0, .int .i64 0, .int .i64 0, .int .i64 0, .int .i64 0, .int .i64 0, .int .i64 0, .int .i64 0, .int .i64 0, .int .i64 0, .int .i64 0, .int .i64 0, .int .i64 0, .int .i64 0, .int .i64 0, .int .i64 0, .int .i64 0, .int .i64 0, .int .i64 0, .int .i64 0, .int .i64 0, .int .i64 0, .int .i64 0, .int .i64 0, .int .i64 0, .int .i64 0, .int .i64 0, .int .i64 0, .int .i64 0, .int .i64 0, .int .i64 0, .int .i64 0, .int .i64 0, .int .i64 0, .int .i64 0, .int .i64 0, .int .i64 0, .int .i64 0, .int .i64 0], none⟩ : IOper) ::
     (⟨none, .store 40 (.t 3) (.t 4), none⟩ : IOper) ::
     []))
   (.seq
    (.reg ((⟨(some 5), .mov (.t 0), none⟩ : IOper) ::
      (⟨(some 6), .indexArr 1 40 (.t 3) (.t 5), none⟩ : IOper) ::
      (⟨(some 7), .loadI .i64 (.t 6), none⟩ : IOper) ::
      (⟨(some 2), .mov (.t 7), none⟩ : IOper) ::
      []))
    .ret)))
def rd_field_bits : List RD := [.tmp 2 true none]
theorem ok_field_bits : fnOk Try.prog Try.f21 ir_field_bits rd_field_bits = true := by kernel_rfl
def ir_field_masked : IR :=
 (.seq
  (.reg ((⟨(some 2), .mov (.c (.kb false)), none⟩ : IOper) ::
    []))
  (.seq
   (.seq
    (.reg ((⟨(some 3), .mov (.t 0), none⟩ : IOper) ::
      []))
    (.block 0
     (.seq
      (.block 2
       (.block 1
        (.seq
         (.seq
          (.seq
           (.seq
            (.reg ((⟨(some 5), .bin .eql (.t 3) (.c (.int .i64 2)), none⟩ : IOper) ::
              (⟨(some 4), .mov (.t 5), none⟩ : IOper) ::
              []))
            (.cond (.t 4)
             .skip
             (.seq
              (.reg ((⟨(some 6), .bin .eql (.t 3) (.c (.int .i64 3)), none⟩ : IOper) ::
                (⟨(some 4), .mov (.t 6), none⟩ : IOper) ::
                []))
              (.cond (.t 4)
               .skip
               (.seq
                (.reg ((⟨(some 7), .bin .eql (.t 3) (.c (.int .i64 4)), none⟩ : IOper) ::
                  (⟨(some 4), .mov (.t 7), none⟩ : IOper) ::
                  []))
                (.cond (.t 4)
                 .skip
                 (.seq
                  (.reg ((⟨(some 8), .bin .eql (.t 3) (.c (.int .i64 6)), none⟩ : IOper) ::
                    (⟨(some 4), .mov (.t 8), none⟩ : IOper) ::
                    []))
                  (.cond (.t 4)
                   .skip
                   (.seq
                    (.reg ((⟨(some 9), .bin .eql (.t 3) (.c (.int .i64 11)), none⟩ : IOper) ::
                      (⟨(some 4), .mov (.t 9), none⟩ : IOper) ::
                      []))
                    (.cond (.t 4)
                     .skip
                     (.seq
                      (.reg ((⟨(some 10), .bin .eql (.t 3) (.c (.int .i64 12)), none⟩ : IOper) ::
                        (⟨(some 4), .mov (.t 10), none⟩ : IOper) ::
                        []))
                      (.cond (.t 4)
                       .skip
                       (.seq
                        (.reg ((⟨(some 11), .bin .eql (.t 3) (.c (.int .i64 37)), none⟩ : IOper) ::
                          (⟨(some 4), .mov (.t 11), none⟩ : IOper) ::
                          []))
                        (.cond (.t 4)
                         .skip
                         (.seq
                          (.reg ((⟨(some 12), .bin .eql (.t 3) (.c (.int .i64 38)), none⟩ : IOper) ::
                            (⟨(some 4), .mov (.t 12), none⟩ : IOper) ::
                            []))
                          (.cond (.t 4)
                           .skip
                           (.reg ((⟨(some 13), .bin .eql (.t 3) (.c (.int .i64 39)), none⟩ : IOper) ::
                             (⟨(some 4), .mov (.t 13), none⟩ : IOper) ::
                             []))))))))))))))))))
           (.cond (.t 4)
            (.exit 1)
            .skip))
          (.seq
           (.seq
            (.reg ((⟨(some 15), .bin .eql (.t 3) (.c (.int .i64 22)), none⟩ : IOper) ::
              (⟨(some 14), .mov (.t 15), none⟩ : IOper) ::
              []))
            (.cond (.t 14)
             .skip
             (.seq
              (.reg ((⟨(some 16), .bin .eql (.t 3) (.c (.int .i64 23)), none⟩ : IOper) ::
                (⟨(some 14), .mov (.t 16), none⟩ : IOper) ::
                []))
              (.cond (.t 14)
               .skip
               (.seq
                (.reg ((⟨(some 17), .bin .eql (.t 3) (.c (.int .i64 24)), none⟩ : IOper) ::
                  (⟨(some 14), .mov (.t 17), none⟩ : IOper) ::
                  []))
                (.cond (.t 14)
                 .skip
                 (.seq
                  (.reg ((⟨(some 18), .bin .eql (.t 3) (.c (.int .i64 25)), none⟩ : IOper) ::
                    (⟨(some 14), .mov (.t 18), none⟩ : IOper) ::
                    []))
                  (.cond (.t 14)
                   .skip
                   (.seq
                    (.reg ((⟨(some 19), .bin .eql (.t 3) (.c (.int .i64 26)), none⟩ : IOper) ::
                      (⟨(some 14), .mov (.t 19), none⟩ : IOper) ::
                      []))
                    (.cond (.t 14)
                     .skip
                     (.seq
                      (.reg ((⟨(some 20), .bin .eql (.t 3) (.c (.int .i64 27)), none⟩ : IOper) ::
                        (⟨(some 14), .mov (.t 20), none⟩ : IOper) ::
                        []))
                      (.cond (.t 14)
                       .skip
                       (.reg ((⟨(some 21), .bin .eql (.t 3) (.c (.int .i64 28)), none⟩ : IOper) ::
                         (⟨(some 14), .mov (.t 21), none⟩ : IOper) ::
                         []))))))))))))))
           (.cond (.t 14)
            (.exit 2)
            .skip)))
         (.exit 0))))
      (.seq
       (.seq
        (.reg ((⟨(some 2), .mov (.c (.kb true)), none⟩ : IOper) ::
          []))
        .ret)
       (.exit 0)))))
   (.seq
    (.reg ((⟨(some 2), .mov (.c (.kb false)), none⟩ : IOper) ::
      []))
    .ret)))
def rd_field_masked : List RD := [.tmp 2 true none]
theorem ok_field_masked : fnOk Try.prog Try.f22 ir_field_masked rd_field_masked = true := by kernel_rfl
def ir_field_need : IR :=
 (.seq
  (.reg ((⟨(some 2), .mov (.c (.int .i64 0)), none⟩ : IOper) ::
    (⟨(some 3), .mov (.c (.imm (.int .u64) [])), none⟩ : IOper) ::
    []))
  (.seq
   (.seq
    (.reg ((⟨(some 4), .mov (.t 0), none⟩ : IOper) ::
      []))
    (.block 0
     (.seq
      (.reg ((⟨(some 6), .bin .eql (.t 4) (.c (.int .i64 1)), none⟩ : IOper) ::
        (⟨(some 5), .mov (.t 6), none⟩ : IOper) ::
        []))
      (.cond (.t 5)
       (.seq
        (.reg ((⟨(some 2), .mov (.c (.int .i64 0)), none⟩ : IOper) ::
          (⟨(some 3), .mov (.c (.imm (.int .u64) [])), none⟩ : IOper) ::
          []))
        .ret)
       (.seq
        (.reg ((⟨(some 8), .bin .eql (.t 4) (.c (.int .i64 7)), none⟩ : IOper) ::
          (⟨(some 7), .mov (.t 8), none⟩ : IOper) ::
          []))
        (.cond (.t 7)
         (.seq
          (.reg ((⟨(some 2), .mov (.c (.int .i64 6)), none⟩ : IOper) ::
            (⟨(some 3), .mov (.c (.imm (.int .u64) [])), none⟩ : IOper) ::
            []))
          .ret)
         (.seq
          (.seq
           (.reg ((⟨(some 10), .bin .eql (.t 4) (.c (.int .i64 8)), none⟩ : IOper) ::
             (⟨(some 9), .mov (.t 10), none⟩ : IOper) ::
             []))
           (.cond (.t 9)
            .skip
            (.seq
             (.reg ((⟨(some 11), .bin .eql (.t 4) (.c (.int .i64 9)), none⟩ : IOper) ::
               (⟨(some 9), .mov (.t 11), none⟩ : IOper) ::
               []))
             (.cond (.t 9)
              .skip
              (.reg ((⟨(some 12), .bin .eql (.t 4) (.c (.int .i64 10)), none⟩ : IOper) ::
                (⟨(some 9), .mov (.t 12), none⟩ : IOper) ::
                []))))))
          (.cond (.t 9)
           (.seq
            (.reg ((⟨(some 13), .sliceAll (.int .u64) 2 [(0, 1, (.c (.int .u64 2048))), (1, 1, (.c (.int .u64 34525)))], none⟩ : IOper) ::
              (⟨(some 2), .mov (.c (.int .i64 5)), none⟩ : IOper) ::
              (⟨(some 3), .mov (.t 13), none⟩ : IOper) ::
              []))
            .ret)
           (.seq
            (.seq
             (.reg ((⟨(some 15), .bin .eql (.t 4) (.c (.int .i64 11)), none⟩ : IOper) ::
               (⟨(some 14), .mov (.t 15), none⟩ : IOper) ::
               []))
             (.cond (.t 14)
              .skip
              (.reg ((⟨(some 16), .bin .eql (.t 4) (.c (.int .i64 12)), none⟩ : IOper) ::
                (⟨(some 14), .mov (.t 16), none⟩ : IOper) ::
                []))))
            (.cond (.t 14)
             (.seq
              (.reg ((⟨(some 17), .sliceAll (.int .u64) 1 [(0, 1, (.c (.int .u64 2048)))], none⟩ : IOper) ::
                (⟨(some 2), .mov (.c (.int .i64 5)), none⟩ : IOper) ::
                (⟨(some 3), .mov (.t 17), none⟩ : IOper) ::
                []))
              .ret)
             (.seq
              (.seq
               (.reg ((⟨(some 19), .bin .eql (.t 4) (.c (.int .i64 21)), none⟩ : IOper) ::
                 (⟨(some 18), .mov (.t 19), none⟩ : IOper) ::
                 []))
               (.cond (.t 18)
                .skip
                (.seq
                 (.reg ((⟨(some 20), .bin .eql (.t 4) (.c (.int .i64 22)), none⟩ : IOper) ::
                   (⟨(some 18), .mov (.t 20), none⟩ : IOper) ::
                   []))
                 (.cond (.t 18)
                  .skip
                  (.seq
                   (.reg ((⟨(some 21), .bin .eql (.t 4) (.c (.int .i64 23)), none⟩ : IOper) ::
                     (⟨(some 18), .mov (.t 21), none⟩ : IOper) ::
                     []))
                   (.cond (.t 18)
                    .skip
                    (.seq
                     (.reg ((⟨(some 22), .bin .eql (.t 4) (.c (.int .i64 24)), none⟩ : IOper) ::
                       (⟨(some 18), .mov (.t 22), none⟩ : IOper) ::
                       []))
                     (.cond (.t 18)
                      .skip
                      (.reg ((⟨(some 23), .bin .eql (.t 4) (.c (.int .i64 25)), none⟩ : IOper) ::
                        (⟨(some 18), .mov (.t 23), none⟩ : IOper) ::
                        []))))))))))
              (.cond (.t 18)
               (.seq
                (.reg ((⟨(some 24), .sliceAll (.int .u64) 1 [(0, 1, (.c (.int .u64 2054)))], none⟩ : IOper) ::
                  (⟨(some 2), .mov (.c (.int .i64 5)), none⟩ : IOper) ::
                  (⟨(some 3), .mov (.t 24), none⟩ : IOper) ::
                  []))
                .ret)
               (.seq
                (.seq
                 (.reg ((⟨(some 26), .bin .eql (.t 4) (.c (.int .i64 26)), none⟩ : IOper) ::
                   (⟨(some 25), .mov (.t 26), none⟩ : IOper) ::
                   []))
                 (.cond (.t 25)
                  .skip
                  (.seq
                   (.reg ((⟨(some 27), .bin .eql (.t 4) (.c (.int .i64 27)), none⟩ : IOper) ::
                     (⟨(some 25), .mov (.t 27), none⟩ : IOper) ::
                     []))
                   (.cond (.t 25)
                    .skip
                    (.seq
                     (.reg ((⟨(some 28), .bin .eql (.t 4) (.c (.int .i64 28)), none⟩ : IOper) ::
                       (⟨(some 25), .mov (.t 28), none⟩ : IOper) ::
                       []))
                     (.cond (.t 25)
                      .skip
                      (.reg ((⟨(some 29), .bin .eql (.t 4) (.c (.int .i64 39)), none⟩ : IOper) ::
                        (⟨(some 25), .mov (.t 29), none⟩ : IOper) ::
                        []))))))))
                (.cond (.t 25)
                 (.seq
                  (.reg ((⟨(some 30), .sliceAll (.int .u64) 1 [(0, 1, (.c (.int .u64 34525)))], none⟩ : IOper) ::
                    (⟨(some 2), .mov (.c (.int .i64 5)), none⟩ : IOper) ::
                    (⟨(some 3), .mov (.t 30), none⟩ : IOper) ::
                    []))
                  .ret)
                 (.seq
                  (.seq
                   (.reg ((⟨(some 32), .bin .eql (.t 4) (.c (.int .i64 34)), none⟩ : IOper) ::
                     (⟨(some 31), .mov (.t 32), none⟩ : IOper) ::
                     []))
                   (.cond (.t 31)
                    .skip
                    (.seq
                     (.reg ((⟨(some 33), .bin .eql (.t 4) (.c (.int .i64 35)), none⟩ : IOper) ::
                       (⟨(some 31), .mov (.t 33), none⟩ : IOper) ::
                       []))
                     (.cond (.t 31)
                      .skip
                      (.reg ((⟨(some 34), .bin .eql (.t 4) (.c (.int .i64 36)), none⟩ : IOper) ::
                        (⟨(some 31), .mov (.t 34), none⟩ : IOper) ::
                        []))))))
                  (.cond (.t 31)
                   (.seq
                    (.reg ((⟨(some 35), .sliceAll (.int .u64) 2 [(0, 1, (.c (.int .u64 34887))), (1, 1, (.c (.int .u64 34888)))], none⟩ : IOper) ::
                      (⟨(some 2), .mov (.c (.int .i64 5)), none⟩ : IOper) ::
                      (⟨(some 3), .mov (.t 35), none⟩ : IOper) ::
                      []))
                    .ret)
                   (.seq
                    (.reg ((⟨(some 37), .bin .eql (.t 4) (.c (.int .i64 37)), none⟩ : IOper) ::
                      (⟨(some 36), .mov (.t 37), none⟩ : IOper) ::
                      []))
                    (.cond (.t 36)
                     (.seq
                      (.reg ((⟨(some 38), .sliceAll (.int .u64) 1 [(0, 1, (.c (.int .u64 35047)))], none⟩ : IOper) ::
                        (⟨(some 2), .mov (.c (.int .i64 5)), none⟩ : IOper) ::
                        (⟨(some 3), .mov (.t 38), none⟩ : IOper) ::
                        []))
                      .ret)
                     .skip))))))))))))))))))
   (.seq
    (.reg ((⟨(some 39), .mov (.t 0), none⟩ : IOper) ::
      (⟨(some 40), .call false (.f 28) [(.t 39)], none⟩ : IOper) ::
      (⟨(some 41), .extract (.t 40) 0, none⟩ : IOper) ::
      (⟨(some 42), .extract (.t 40) 1, none⟩ : IOper) ::
      (⟨(some 2), .mov (.t 41), none⟩ : IOper) ::
      (⟨(some 3), .mov (.t 42), none⟩ : IOper) ::
      []))
    .ret)))
def rd_field_need : List RD := [.tmp 2 true none, .tmp 3 true (some (.int .u64))]
theorem ok_field_need : fnOk Try.prog Try.f23 ir_field_need rd_field_need = true := by kernel_rfl
end Go.Eng
