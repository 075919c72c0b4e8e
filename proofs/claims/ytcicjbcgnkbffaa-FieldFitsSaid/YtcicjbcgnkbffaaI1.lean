/- The functions of the given program, in the small language. No condition. -/
import Derived.Test.YtcicjbcgnkbffaaProg
import Derived.Test.YtcicjbcgnkbffaaESum
import Derived.KernelRfl
namespace Go.Eng
open Go.Proofs
def ir_l07_FieldFits : IR :=
 (.seq
  (.reg ((⟨(some 4), .mov (.c (.kb false)), none⟩ : IOper) ::
    []))
  (.seq
   (.seq
    (.reg ((⟨(some 5), .mov (.t 1), none⟩ : IOper) ::
      (⟨(some 6), .len (.t 5), none⟩ : IOper) ::
      (⟨(some 7), .bin .gtr (.t 6) (.c (.int .i64 200)), none⟩ : IOper) ::
      []))
    (.cond (.t 7)
     (.seq
      (.reg ((⟨(some 8), .call false (.f 6) [], none⟩ : IOper) ::
        (⟨(some 4), .mov (.t 8), none⟩ : IOper) ::
        []))
      .ret)
     .skip))
   (.seq
    (.reg ((⟨(some 9), .mov (.t 0), none⟩ : IOper) ::
      (⟨(some 10), .mov (.t 1), none⟩ : IOper) ::
      (⟨(some 11), .call false (.f 7) [(.t 9), (.t 10)], none⟩ : IOper) ::
      (⟨(some 12), .mov (.t 0), none⟩ : IOper) ::
      (⟨(some 13), .mov (.t 1), none⟩ : IOper) ::
      (⟨(some 14), .call false (.f 8) [(.t 12), (.t 13)], none⟩ : IOper) ::
      (⟨(some 15), .eqb false (.t 11) (.t 14), none⟩ : IOper) ::
      (⟨(some 16), .mov (.t 15), none⟩ : IOper) ::
      (⟨(some 17), .call false (.f 6) [], (some (16, true))⟩ : IOper) ::
      (⟨(some 18), .pick (.t 16) (.t 17) (.c (.kb false)), none⟩ : IOper) ::
      (⟨(some 4), .mov (.t 18), none⟩ : IOper) ::
      []))
    .ret)))
def rd_l07_FieldFits : List RD := [.tmp 4 true none]
theorem ok_l07_FieldFits : fnOk Try.prog Try.f3 ir_l07_FieldFits rd_l07_FieldFits = true := by kernel_rfl
def ir_l07_sure : IR :=
 (.seq
  (.reg ((⟨(some 0), .mov (.c (.kb false)), none⟩ : IOper) ::
    []))
  (.seq
   (.reg ((⟨(some 6), .call false (.f 13) [(.c (.int .i64 31))], none⟩ : IOper) ::
     (⟨(some 1), .mov (.t 6), none⟩ : IOper) ::
     []))
   (.seq
    (.reg ((⟨(some 8), .call false (.f 11) [(.c (.str [105, 112, 118, 54, 95, 110, 100, 95, 116, 108, 108]))], none⟩ : IOper) ::
      (⟨(some 7), .mov (.t 8), none⟩ : IOper) ::
      (⟨(some 9), .extract (.t 7) 0, none⟩ : IOper) ::
      (⟨(some 10), .extract (.t 7) 1, none⟩ : IOper) ::
      (⟨(some 2), .mov (.t 9), none⟩ : IOper) ::
      (⟨(some 3), .mov (.t 10), none⟩ : IOper) ::
      []))
    (.seq
     (.reg ((⟨(some 12), .call false (.f 9) [(.c (.int .i64 33))], none⟩ : IOper) ::
       (⟨(some 11), .mov (.t 12), none⟩ : IOper) ::
       (⟨(some 13), .extract (.t 11) 0, none⟩ : IOper) ::
       (⟨(some 14), .extract (.t 11) 1, none⟩ : IOper) ::
       (⟨(some 4), .box [.int .i64 0, .int .i64 0, .kb false, .int .i64 0, .imm (.int .u64) []], none⟩ : IOper) ::
       (⟨none, .store 5 (.t 4) (.t 13), none⟩ : IOper) ::
       (⟨(some 5), .mov (.t 14), none⟩ : IOper) ::
       []))
     (.seq
      (.reg ((⟨(some 15), .mov (.t 1), none⟩ : IOper) ::
        (⟨(some 16), .len (.t 15), none⟩ : IOper) ::
        (⟨(some 17), .bin .eql (.t 16) (.c (.int .i64 3)), none⟩ : IOper) ::
        (⟨(some 18), .mov (.t 17), none⟩ : IOper) ::
        (⟨(some 19), .mov (.t 1), (some (18, true))⟩ : IOper) ::
        (⟨(some 20), .indexSl 1 (.t 19) (.c (.int .i64 0)), (some (18, true))⟩ : IOper) ::
        (⟨(some 21), .load none (.t 20), (some (18, true))⟩ : IOper) ::
        (⟨(some 22), .bin .eql (.t 21) (.c (.int .i64 5)), (some (18, true))⟩ : IOper) ::
        (⟨(some 23), .pick (.t 18) (.t 22) (.c (.kb false)), none⟩ : IOper) ::
        (⟨(some 24), .mov (.t 23), none⟩ : IOper) ::
        (⟨(some 25), .mov (.t 1), (some (24, true))⟩ : IOper) ::
        (⟨(some 26), .indexSl 1 (.t 25) (.c (.int .i64 1)), (some (24, true))⟩ : IOper) ::
        (⟨(some 27), .load none (.t 26), (some (24, true))⟩ : IOper) ::
        (⟨(some 28), .bin .eql (.t 27) (.c (.int .i64 10)), (some (24, true))⟩ : IOper) ::
        (⟨(some 29), .pick (.t 24) (.t 28) (.c (.kb false)), none⟩ : IOper) ::
        (⟨(some 30), .mov (.t 29), none⟩ : IOper) ::
        (⟨(some 31), .mov (.t 1), (some (30, true))⟩ : IOper) ::
        (⟨(some 32), .indexSl 1 (.t 31) (.c (.int .i64 2)), (some (30, true))⟩ : IOper) ::
        (⟨(some 33), .load none (.t 32), (some (30, true))⟩ : IOper) ::
        (⟨(some 34), .bin .eql (.t 33) (.c (.int .i64 29)), (some (30, true))⟩ : IOper) ::
        (⟨(some 35), .pick (.t 30) (.t 34) (.c (.kb false)), none⟩ : IOper) ::
        (⟨(some 36), .mov (.t 35), none⟩ : IOper) ::
        (⟨(some 37), .mov (.t 3), (some (36, true))⟩ : IOper) ::
        (⟨(some 38), .pick (.t 36) (.t 37) (.c (.kb false)), none⟩ : IOper) ::
        (⟨(some 39), .mov (.t 38), none⟩ : IOper) ::
        (⟨(some 40), .mov (.t 2), (some (39, true))⟩ : IOper) ::
        (⟨(some 41), .bin .eql (.t 40) (.c (.int .i64 33)), (some (39, true))⟩ : IOper) ::
        (⟨(some 42), .pick (.t 39) (.t 41) (.c (.kb false)), none⟩ : IOper) ::
        (⟨(some 43), .mov (.t 42), none⟩ : IOper) ::
        (⟨(some 44), .mov (.t 5), (some (43, true))⟩ : IOper) ::
        (⟨(some 45), .pick (.t 43) (.t 44) (.c (.kb false)), none⟩ : IOper) ::
        (⟨(some 46), .mov (.t 45), none⟩ : IOper) ::
        (⟨(some 47), .fieldAddr 3 (.t 4), (some (46, true))⟩ : IOper) ::
        (⟨(some 48), .load none (.t 47), (some (46, true))⟩ : IOper) ::
        (⟨(some 49), .bin .eql (.t 48) (.c (.int .i64 29)), (some (46, true))⟩ : IOper) ::
        (⟨(some 50), .pick (.t 46) (.t 49) (.c (.kb false)), none⟩ : IOper) ::
        (⟨(some 51), .mov (.t 50), none⟩ : IOper) ::
        (⟨(some 52), .fieldAddr 4 (.t 4), (some (51, true))⟩ : IOper) ::
        (⟨(some 53), .load none (.t 52), (some (51, true))⟩ : IOper) ::
        (⟨(some 54), .len (.t 53), (some (51, true))⟩ : IOper) ::
        (⟨(some 55), .bin .eql (.t 54) (.c (.int .i64 1)), (some (51, true))⟩ : IOper) ::
        (⟨(some 56), .pick (.t 51) (.t 55) (.c (.kb false)), none⟩ : IOper) ::
        (⟨(some 57), .mov (.t 56), none⟩ : IOper) ::
        (⟨(some 58), .fieldAddr 4 (.t 4), (some (57, true))⟩ : IOper) ::
        (⟨(some 59), .load none (.t 58), (some (57, true))⟩ : IOper) ::
        (⟨(some 60), .indexSl 1 (.t 59) (.c (.int .i64 0)), (some (57, true))⟩ : IOper) ::
        (⟨(some 61), .load none (.t 60), (some (57, true))⟩ : IOper) ::
        (⟨(some 62), .bin .eql (.t 61) (.c (.int .u64 136)), (some (57, true))⟩ : IOper) ::
        (⟨(some 63), .pick (.t 57) (.t 62) (.c (.kb false)), none⟩ : IOper) ::
        (⟨(some 64), .mov (.t 63), none⟩ : IOper) ::
        (⟨(some 65), .sliceAll (.int .u8) 1 [(0, 1, (.c (.int .u8 8)))], (some (64, true))⟩ : IOper) ::
        (⟨(some 66), .call false (.f 7) [(.c (.int .i64 7)), (.t 65)], (some (64, true))⟩ : IOper) ::
        (⟨(some 67), .un .not (.t 66), (some (64, true))⟩ : IOper) ::
        (⟨(some 68), .pick (.t 64) (.t 67) (.c (.kb false)), none⟩ : IOper) ::
        (⟨(some 69), .mov (.t 68), none⟩ : IOper) ::
        (⟨(some 70), .sliceAll (.int .u8) 1 [(0, 1, (.c (.int .u8 7)))], (some (69, true))⟩ : IOper) ::
        (⟨(some 71), .call false (.f 7) [(.c (.int .i64 7)), (.t 70)], (some (69, true))⟩ : IOper) ::
        (⟨(some 72), .pick (.t 69) (.t 71) (.c (.kb false)), none⟩ : IOper) ::
        (⟨(some 0), .mov (.t 72), none⟩ : IOper) ::
        []))
      .ret)))))
def rd_l07_sure : List RD := [.tmp 0 true none]
theorem ok_l07_sure : fnOk Try.prog Try.f6 ir_l07_sure rd_l07_sure = true := by kernel_rfl
def ir_field_Fits : IR :=
 (.seq
  (.reg ((⟨(some 4), .mov (.c (.kb false)), none⟩ : IOper) ::
    []))
  (.seq
   (.seq
    (.reg ((⟨(some 9), .mov (.t 0), none⟩ : IOper) ::
      (⟨(some 10), .call false (.f 19) [(.t 9)], none⟩ : IOper) ::
      (⟨(some 11), .un .not (.t 10), none⟩ : IOper) ::
      (⟨(some 12), .mov (.t 11), none⟩ : IOper) ::
      (⟨(some 13), .mov (.t 1), (some (12, false))⟩ : IOper) ::
      (⟨(some 14), .len (.t 13), (some (12, false))⟩ : IOper) ::
      (⟨(some 15), .mov (.t 0), (some (12, false))⟩ : IOper) ::
      (⟨(some 16), .call false (.f 20) [(.t 15)], (some (12, false))⟩ : IOper) ::
      (⟨(some 17), .bin .neq (.t 14) (.t 16), (some (12, false))⟩ : IOper) ::
      (⟨(some 18), .pick (.t 12) (.c (.kb true)) (.t 17), none⟩ : IOper) ::
      []))
    (.cond (.t 18)
     (.seq
      (.reg ((⟨(some 4), .mov (.c (.kb false)), none⟩ : IOper) ::
        []))
      .ret)
     .skip))
   (.seq
    (.reg ((⟨(some 19), .mov (.t 0), none⟩ : IOper) ::
      (⟨(some 20), .call false (.f 20) [(.t 19)], none⟩ : IOper) ::
      (⟨(some 21), .bin .mul (.c (.int .i64 8)) (.t 20), none⟩ : IOper) ::
      (⟨(some 22), .mov (.t 0), none⟩ : IOper) ::
      (⟨(some 23), .call false (.f 21) [(.t 22)], none⟩ : IOper) ::
      (⟨(some 24), .bin .sub (.t 21) (.t 23), none⟩ : IOper) ::
      (⟨(some 5), .mov (.t 24), none⟩ : IOper) ::
      []))
    (.seq
     (.seq
      (.reg ((⟨(some 25), .mov (.t 1), none⟩ : IOper) ::
        (⟨(some 26), .len (.t 25), none⟩ : IOper) ::
        (⟨(some 27), .mov (.c (.int .i64 0)), none⟩ : IOper) ::
        []))
      (.block 0
       (.loop
        (.seq
         (.reg ((⟨(some 28), .bin .lss (.t 27) (.t 26), none⟩ : IOper) ::
           []))
         (.seq
          (.cond (.t 28)
           .skip
           (.exit 0))
          (.seq
           (.block 1
            (.seq
             (.reg ((⟨(some 29), .indexSl 1 (.t 25) (.t 27), none⟩ : IOper) ::
               (⟨(some 30), .load none (.t 29), none⟩ : IOper) ::
               (⟨(some 7), .mov (.t 30), none⟩ : IOper) ::
               []))
             (.seq
              (.reg ((⟨(some 31), .mov (.t 5), none⟩ : IOper) ::
                (⟨(some 32), .minmax false (.t 31) (.c (.int .i64 8)), none⟩ : IOper) ::
                (⟨(some 8), .mov (.t 32), none⟩ : IOper) ::
                []))
              (.seq
               (.seq
                (.reg ((⟨(some 33), .mov (.t 7), none⟩ : IOper) ::
                  (⟨(some 34), .mov (.t 8), none⟩ : IOper) ::
                  (⟨(some 35), .bin .sub (.c (.int .i64 8)) (.t 34), none⟩ : IOper) ::
                  (⟨(some 36), .bin .shr (.t 33) (.t 35), none⟩ : IOper) ::
                  (⟨(some 37), .bin .neq (.t 36) (.c (.int .u8 0)), none⟩ : IOper) ::
                  []))
                (.cond (.t 37)
                 (.seq
                  (.reg ((⟨(some 4), .mov (.c (.kb false)), none⟩ : IOper) ::
                    []))
                  .ret)
                 .skip))
               (.reg ((⟨(some 38), .mov (.t 5), none⟩ : IOper) ::
                 (⟨(some 39), .mov (.t 8), none⟩ : IOper) ::
                 (⟨(some 40), .bin .sub (.t 38) (.t 39), none⟩ : IOper) ::
                 (⟨(some 5), .mov (.t 40), none⟩ : IOper) ::
                 []))))))
           (.reg ((⟨(some 41), .bin .add (.t 27) (.c (.int .i64 1)), none⟩ : IOper) ::
             (⟨(some 27), .mov (.t 41), none⟩ : IOper) ::
             []))))))))
     (.seq
      (.reg ((⟨(some 4), .mov (.c (.kb true)), none⟩ : IOper) ::
        []))
      .ret)))))
def rd_field_Fits : List RD := [.tmp 4 true none]
theorem ok_field_Fits : fnOk Try.prog Try.f7 ir_field_Fits rd_field_Fits = true := by kernel_rfl
def ir_r07_Fits : IR :=
 (.seq
  (.reg ((⟨(some 4), .mov (.c (.kb false)), none⟩ : IOper) ::
    []))
  (.seq
   (.reg ((⟨(some 9), .mov (.t 0), none⟩ : IOper) ::
     (⟨(some 10), .call false (.f 10) [(.t 9)], none⟩ : IOper) ::
     (⟨(some 8), .mov (.t 10), none⟩ : IOper) ::
     (⟨(some 11), .extract (.t 8) 0, none⟩ : IOper) ::
     (⟨(some 12), .extract (.t 8) 1, none⟩ : IOper) ::
     (⟨(some 5), .box [.str [], .int .i64 0, .int .i64 0, .kb false, .int .i64 0, .imm (.int .u64) []], none⟩ : IOper) ::
     (⟨none, .store 6 (.t 5) (.t 11), none⟩ : IOper) ::
     (⟨(some 6), .mov (.t 12), none⟩ : IOper) ::
     []))
   (.seq
    (.seq
     (.reg ((⟨(some 13), .mov (.t 6), none⟩ : IOper) ::
       (⟨(some 14), .un .not (.t 13), none⟩ : IOper) ::
       (⟨(some 15), .mov (.t 14), none⟩ : IOper) ::
       (⟨(some 16), .mov (.t 1), (some (15, false))⟩ : IOper) ::
       (⟨(some 17), .len (.t 16), (some (15, false))⟩ : IOper) ::
       (⟨(some 18), .fieldAddr 2 (.t 5), (some (15, false))⟩ : IOper) ::
       (⟨(some 19), .load none (.t 18), (some (15, false))⟩ : IOper) ::
       (⟨(some 20), .bin .neq (.t 17) (.t 19), (some (15, false))⟩ : IOper) ::
       (⟨(some 21), .pick (.t 15) (.c (.kb true)) (.t 20), none⟩ : IOper) ::
       []))
     (.cond (.t 21)
      (.seq
       (.reg ((⟨(some 4), .mov (.c (.kb false)), none⟩ : IOper) ::
         []))
       .ret)
      .skip))
    (.seq
     (.seq
      (.reg ((⟨(some 22), .fieldAddr 1 (.t 5), none⟩ : IOper) ::
        (⟨(some 23), .load none (.t 22), none⟩ : IOper) ::
        (⟨(some 7), .mov (.t 23), none⟩ : IOper) ::
        []))
      (.block 0
       (.loop
        (.seq
         (.seq
          (.reg ((⟨(some 24), .mov (.t 7), none⟩ : IOper) ::
            (⟨(some 25), .fieldAddr 2 (.t 5), none⟩ : IOper) ::
            (⟨(some 26), .load none (.t 25), none⟩ : IOper) ::
            (⟨(some 27), .bin .mul (.c (.int .i64 8)) (.t 26), none⟩ : IOper) ::
            (⟨(some 28), .bin .lss (.t 24) (.t 27), none⟩ : IOper) ::
            []))
          (.cond (.t 28)
           .skip
           (.exit 0)))
         (.seq
          (.block 1
           (.seq
            (.reg ((⟨(some 31), .mov (.t 1), none⟩ : IOper) ::
              (⟨(some 32), .fieldAddr 2 (.t 5), none⟩ : IOper) ::
              (⟨(some 33), .load none (.t 32), none⟩ : IOper) ::
              (⟨(some 34), .bin .sub (.t 33) (.c (.int .i64 1)), none⟩ : IOper) ::
              (⟨(some 35), .mov (.t 7), none⟩ : IOper) ::
              (⟨(some 36), .bin .quo (.t 35) (.c (.int .i64 8)), none⟩ : IOper) ::
              (⟨(some 37), .bin .sub (.t 34) (.t 36), none⟩ : IOper) ::
              (⟨(some 38), .indexSl 1 (.t 31) (.t 37), none⟩ : IOper) ::
              (⟨(some 39), .load none (.t 38), none⟩ : IOper) ::
              (⟨(some 40), .mov (.t 7), none⟩ : IOper) ::
              (⟨(some 41), .bin .rem (.t 40) (.c (.int .i64 8)), none⟩ : IOper) ::
              (⟨(some 42), .bin .shr (.t 39) (.t 41), none⟩ : IOper) ::
              (⟨(some 43), .bin .and (.t 42) (.c (.int .u8 1)), none⟩ : IOper) ::
              (⟨(some 44), .bin .eql (.t 43) (.c (.int .u8 1)), none⟩ : IOper) ::
              []))
            (.cond (.t 44)
             (.seq
              (.reg ((⟨(some 4), .mov (.c (.kb false)), none⟩ : IOper) ::
                []))
              .ret)
             .skip)))
          (.reg ((⟨(some 29), .mov (.t 7), none⟩ : IOper) ::
            (⟨(some 30), .bin .add (.t 29) (.c (.int .i64 1)), none⟩ : IOper) ::
            (⟨(some 7), .mov (.t 30), none⟩ : IOper) ::
            [])))))))
     (.seq
      (.reg ((⟨(some 4), .mov (.c (.kb true)), none⟩ : IOper) ::
        []))
      .ret)))))
def rd_r07_Fits : List RD := [.tmp 4 true none]
theorem ok_r07_Fits : fnOk Try.prog Try.f8 ir_r07_Fits rd_r07_Fits = true := by kernel_rfl
def ir_field_Of : IR :=
 (.seq
  (.reg ((⟨(some 2), .box [.int .i64 0, .int .i64 0, .kb false, .int .i64 0, .imm (.int .u64) []], none⟩ : IOper) ::
    (⟨(some 3), .mov (.c (.kb false)), none⟩ : IOper) ::
    []))
  (.seq
   (.seq
    (.reg ((⟨(some 5), .mov (.t 0), none⟩ : IOper) ::
      (⟨(some 6), .call false (.f 19) [(.t 5)], none⟩ : IOper) ::
      (⟨(some 7), .un .not (.t 6), none⟩ : IOper) ::
      []))
    (.cond (.t 7)
     (.seq
      (.reg ((⟨(some 8), .build [.int .i64 0, .int .i64 0, .kb false, .int .i64 0, .imm (.int .u64) []] [], none⟩ : IOper) ::
        (⟨none, .store 5 (.t 2) (.t 8), none⟩ : IOper) ::
        (⟨(some 3), .mov (.c (.kb false)), none⟩ : IOper) ::
        []))
      .ret)
     .skip))
   (.seq
    (.reg ((⟨(some 9), .mov (.t 0), none⟩ : IOper) ::
      (⟨(some 10), .call false (.f 21) [(.t 9)], none⟩ : IOper) ::
      (⟨(some 11), .mov (.t 0), none⟩ : IOper) ::
      (⟨(some 12), .call false (.f 20) [(.t 11)], none⟩ : IOper) ::
      (⟨(some 13), .mov (.t 0), none⟩ : IOper) ::
      (⟨(some 14), .call false (.f 22) [(.t 13)], none⟩ : IOper) ::
      (⟨(some 15), .build [.int .i64 0, .int .i64 0, .kb false, .int .i64 0, .imm (.int .u64) []] [(0, 1, (.t 10)), (1, 1, (.t 12)), (2, 1, (.t 14))], none⟩ : IOper) ::
      (⟨(some 4), .box [.int .i64 0, .int .i64 0, .kb false, .int .i64 0, .imm (.int .u64) []], none⟩ : IOper) ::
      (⟨none, .store 5 (.t 4) (.t 15), none⟩ : IOper) ::
      []))
    (.seq
     (.reg ((⟨(some 17), .mov (.t 0), none⟩ : IOper) ::
       (⟨(some 18), .call false (.f 23) [(.t 17)], none⟩ : IOper) ::
       (⟨(some 16), .mov (.t 18), none⟩ : IOper) ::
       (⟨(some 19), .extract (.t 16) 0, none⟩ : IOper) ::
       (⟨(some 20), .extract (.t 16) 1, none⟩ : IOper) ::
       (⟨(some 21), .fieldAddr 3 (.t 4), none⟩ : IOper) ::
       (⟨none, .store 1 (.t 21) (.t 19), none⟩ : IOper) ::
       (⟨(some 22), .fieldAddr 4 (.t 4), none⟩ : IOper) ::
       (⟨none, .store 1 (.t 22) (.t 20), none⟩ : IOper) ::
       []))
     (.seq
      (.reg ((⟨(some 23), .load (some 5) (.t 4), none⟩ : IOper) ::
        (⟨none, .store 5 (.t 2) (.t 23), none⟩ : IOper) ::
        (⟨(some 3), .mov (.c (.kb true)), none⟩ : IOper) ::
        []))
      .ret)))))
def rd_field_Of : List RD := [.cell 2 (some 5) true, .tmp 3 true none]
theorem ok_field_Of : fnOk Try.prog Try.f9 ir_field_Of rd_field_Of = true := by kernel_rfl
def ir_r07_Of : IR :=
 (.seq
  (.reg ((⟨(some 2), .box [.str [], .int .i64 0, .int .i64 0, .kb false, .int .i64 0, .imm (.int .u64) []], none⟩ : IOper) ::
    (⟨(some 3), .mov (.c (.kb false)), none⟩ : IOper) ::
    []))
  (.seq
   (.reg ((⟨(some 5), .call false (.f 24) [], none⟩ : IOper) ::
     (⟨(some 4), .mov (.t 5), none⟩ : IOper) ::
     []))
   (.seq
    (.seq
     (.reg ((⟨(some 6), .mov (.t 0), none⟩ : IOper) ::
       (⟨(some 7), .bin .lss (.t 6) (.c (.int .i64 0)), none⟩ : IOper) ::
       (⟨(some 8), .mov (.t 7), none⟩ : IOper) ::
       (⟨(some 9), .mov (.t 0), (some (8, false))⟩ : IOper) ::
       (⟨(some 10), .mov (.t 4), (some (8, false))⟩ : IOper) ::
       (⟨(some 11), .len (.t 10), (some (8, false))⟩ : IOper) ::
       (⟨(some 12), .bin .geq (.t 9) (.t 11), (some (8, false))⟩ : IOper) ::
       (⟨(some 13), .pick (.t 8) (.c (.kb true)) (.t 12), none⟩ : IOper) ::
       []))
     (.cond (.t 13)
      (.seq
       (.reg ((⟨(some 14), .build [.str [], .int .i64 0, .int .i64 0, .kb false, .int .i64 0, .imm (.int .u64) []] [], none⟩ : IOper) ::
         (⟨none, .store 6 (.t 2) (.t 14), none⟩ : IOper) ::
         (⟨(some 3), .mov (.c (.kb false)), none⟩ : IOper) ::
         []))
       .ret)
      .skip))
    (.seq
     (.reg ((⟨(some 15), .mov (.t 4), none⟩ : IOper) ::
       (⟨(some 16), .mov (.t 0), none⟩ : IOper) ::
       (⟨(some 17), .indexSl 6 (.t 15) (.t 16), none⟩ : IOper) ::
       (⟨(some 18), .load (some 6) (.t 17), none⟩ : IOper) ::
       (⟨none, .store 6 (.t 2) (.t 18), none⟩ : IOper) ::
       (⟨(some 3), .mov (.c (.kb true)), none⟩ : IOper) ::
       []))
     .ret))))
def rd_r07_Of : List RD := [.cell 2 (some 6) true, .tmp 3 true none]
theorem ok_r07_Of : fnOk Try.prog Try.f10 ir_r07_Of rd_r07_Of = true := by kernel_rfl
def ir_field_Find : IR :=
 (.seq
  (.reg ((⟨(some 2), .mov (.c (.int .i64 0)), none⟩ : IOper) ::
    (⟨(some 3), .mov (.c (.kb false)), none⟩ : IOper) ::
    []))
  (.seq
   (.reg ((⟨(some 6), .call false (.f 25) [], none⟩ : IOper) ::
     (⟨(some 4), .box [.str [], .str [], .str [], .str [], .str [], .str [], .str [], .str [], .str [], .str [], .str [], .str [], .str [], .str [], .str [], .str [], .str [], .str [], .str [], .str [], .str [], .str [], .str [], .str [], .str [], .str [], .str [], .str [], .str [], .str [], .str [], .str [], .str [], .str [], .str [], .str [], .str [], .str [], .str [], .str []], none⟩ : IOper) ::
     (⟨none, .store 40 (.t 4) (.t 6), none⟩ : IOper) ::
     []))
   (.seq
    (.reg ((⟨(some 7), .sarr .str 40 (.t 4), none⟩ : IOper) ::
      (⟨(some 8), .mov (.t 0), none⟩ : IOper) ::
      (⟨(some 9), .call false (.f 26) [(.t 7), (.t 8)], none⟩ : IOper) ::
      (⟨(some 5), .mov (.t 9), none⟩ : IOper) ::
      []))
    (.seq
     (.reg ((⟨(some 10), .mov (.t 5), none⟩ : IOper) ::
       (⟨(some 11), .minmax true (.t 10) (.c (.int .i64 0)), none⟩ : IOper) ::
       (⟨(some 12), .mov (.t 5), none⟩ : IOper) ::
       (⟨(some 13), .bin .geq (.t 12) (.c (.int .i64 0)), none⟩ : IOper) ::
       (⟨(some 2), .mov (.t 11), none⟩ : IOper) ::
       (⟨(some 3), .mov (.t 13), none⟩ : IOper) ::
       []))
     .ret))))
def rd_field_Find : List RD := [.tmp 2 true none, .tmp 3 true none]
theorem ok_field_Find : fnOk Try.prog Try.f11 ir_field_Find rd_field_Find = true := by kernel_rfl
def ir_field_Needs : IR :=
 (.seq
  (.reg ((⟨(some 2), .mov (.c (.nils)), none⟩ : IOper) ::
    []))
  (.seq
   (.seq
    (.reg ((⟨(some 3), .mov (.t 0), none⟩ : IOper) ::
      (⟨(some 4), .call false (.f 19) [(.t 3)], none⟩ : IOper) ::
      (⟨(some 5), .un .not (.t 4), none⟩ : IOper) ::
      []))
    (.cond (.t 5)
     (.seq
      (.reg ((⟨(some 2), .mov (.c (.nils)), none⟩ : IOper) ::
        []))
      .ret)
     .skip))
   (.seq
    (.seq
     (.reg ((⟨(some 7), .mov (.t 0), none⟩ : IOper) ::
       (⟨(some 8), .call false (.f 23) [(.t 7)], none⟩ : IOper) ::
       (⟨(some 6), .mov (.t 8), none⟩ : IOper) ::
       (⟨(some 9), .extract (.t 6) 0, none⟩ : IOper) ::
       (⟨(some 10), .extract (.t 6) 1, none⟩ : IOper) ::
       (⟨(some 0), .mov (.t 9), none⟩ : IOper) ::
       []))
     (.block 0
      (.loop
       (.seq
        (.seq
         (.reg ((⟨(some 11), .mov (.t 0), none⟩ : IOper) ::
           (⟨(some 12), .bin .neq (.t 11) (.c (.int .i64 (-1))), none⟩ : IOper) ::
           []))
         (.cond (.t 12)
          .skip
          (.exit 0)))
        (.seq
         (.block 1
          (.reg ((⟨(some 18), .mov (.t 2), none⟩ : IOper) ::
            (⟨(some 19), .mov (.t 0), none⟩ : IOper) ::
            (⟨(some 20), .sliceAll (.int .i64) 1 [(0, 1, (.t 19))], none⟩ : IOper) ::
            (⟨(some 21), .append (.int .i64) 8 (.t 18) (.t 20), none⟩ : IOper) ::
            (⟨(some 2), .mov (.t 21), none⟩ : IOper) ::
            [])))
         (.reg ((⟨(some 14), .mov (.t 0), none⟩ : IOper) ::
           (⟨(some 15), .call false (.f 23) [(.t 14)], none⟩ : IOper) ::
           (⟨(some 13), .mov (.t 15), none⟩ : IOper) ::
           (⟨(some 16), .extract (.t 13) 0, none⟩ : IOper) ::
           (⟨(some 17), .extract (.t 13) 1, none⟩ : IOper) ::
           (⟨(some 0), .mov (.t 16), none⟩ : IOper) ::
           [])))))))
    (.seq
     (.reg ((⟨(some 22), .mov (.t 2), none⟩ : IOper) ::
       (⟨(some 23), .call true (.f 27) [(.t 22)], none⟩ : IOper) ::
       []))
     (.seq
      (.reg ((⟨(some 24), .mov (.t 2), none⟩ : IOper) ::
        (⟨(some 2), .mov (.t 24), none⟩ : IOper) ::
        []))
      .ret)))))
def rd_field_Needs : List RD := [.tmp 2 true (some (.int .i64))]
theorem ok_field_Needs : fnOk Try.prog Try.f13 ir_field_Needs rd_field_Needs = true := by kernel_rfl
def ir_field_is : IR :=
 (.seq
  (.reg ((⟨(some 2), .mov (.c (.kb false)), none⟩ : IOper) ::
    []))
  (.seq
   (.reg ((⟨(some 3), .mov (.t 0), none⟩ : IOper) ::
     (⟨(some 4), .bin .geq (.t 3) (.c (.int .i64 0)), none⟩ : IOper) ::
     (⟨(some 5), .mov (.t 4), none⟩ : IOper) ::
     (⟨(some 6), .mov (.t 0), (some (5, true))⟩ : IOper) ::
     (⟨(some 7), .bin .lss (.t 6) (.c (.int .i64 40)), (some (5, true))⟩ : IOper) ::
     (⟨(some 8), .pick (.t 5) (.t 7) (.c (.kb false)), none⟩ : IOper) ::
     (⟨(some 2), .mov (.t 8), none⟩ : IOper) ::
     []))
   .ret))
def rd_field_is : List RD := [.tmp 2 true none]
theorem ok_field_is : fnOk Try.prog Try.f19 ir_field_is rd_field_is = true := by kernel_rfl
def ir_field_size : IR :=
 (.seq
  (.reg ((⟨(some 2), .mov (.c (.int .i64 0)), none⟩ : IOper) ::
    []))
  (.seq
   (.seq
    (.reg ((⟨(some 3), .mov (.t 0), none⟩ : IOper) ::
      []))
    (.block 0
     (.seq
      (.seq
       (.reg ((⟨(some 5), .bin .eql (.t 3) (.c (.int .i64 28)), none⟩ : IOper) ::
         (⟨(some 4), .mov (.t 5), none⟩ : IOper) ::
         []))
       (.cond (.t 4)
        .skip
        (.reg ((⟨(some 6), .bin .eql (.t 3) (.c (.int .i64 34)), none⟩ : IOper) ::
          (⟨(some 4), .mov (.t 6), none⟩ : IOper) ::
          []))))
      (.cond (.t 4)
       (.seq
        (.reg ((⟨(some 2), .mov (.c (.int .i64 4)), none⟩ : IOper) ::
          []))
        .ret)
       .skip))))
   (.seq
    (.reg ((⟨(some 7), .mov (.t 0), none⟩ : IOper) ::
      (⟨(some 8), .call false (.f 21) [(.t 7)], none⟩ : IOper) ::
      (⟨(some 9), .bin .add (.t 8) (.c (.int .i64 8)), none⟩ : IOper) ::
      (⟨(some 10), .bin .sub (.t 9) (.c (.int .i64 1)), none⟩ : IOper) ::
      (⟨(some 11), .bin .quo (.t 10) (.c (.int .i64 8)), none⟩ : IOper) ::
      (⟨(some 2), .mov (.t 11), none⟩ : IOper) ::
      []))
    .ret)))
def rd_field_size : List RD := [.tmp 2 true none]
theorem ok_field_size : fnOk Try.prog Try.f20 ir_field_size rd_field_size = true := by kernel_rfl
def ir_field_bits : IR :=
 (.seq
  (.reg ((⟨(some 2), .mov (.c (.int .i64 0)), none⟩ : IOper) ::
    []))
  (.seq
   (.reg ((⟨(some 4), .buildAll 40 [(0, 1, (.c (.int .i64 32))), (1, 1, (.c (.int .i64 32))), (2, 1, (.c (.int .i64 64))), (3, 1, (.c (.int .i64 48))), (4, 1, (.c (.int .i64 48))), (5, 1, (.c (.int .i64 16))), (6, 1, (.c (.int .i64 13))), (7, 1, (.c (.int .i64 3))), (8, 1, (.c (.int .i64 6))), (9, 1, (.c (.int .i64 2))), (10, 1, (.c (.int .i64 8))), (11, 1, (.c (.int .i64 32))), (12, 1, (.c (.int .i64 32))), (13, 1, (.c (.int .i64 16))), (14, 1, (.c (.int .i64 16))), (15, 1, (.c (.int .i64 16))), (16, 1, (.c (.int .i64 16))), (17, 1, (.c (.int .i64 16))), (18, 1, (.c (.int .i64 16))), (19, 1, (.c (.int .i64 8))), (20, 1, (.c (.int .i64 8))), (21, 1, (.c (.int .i64 16))), (22, 1, (.c (.int .i64 32))), (23, 1, (.c (.int .i64 32))), (24, 1, (.c (.int .i64 48))), (25, 1, (.c (.int .i64 48))), (26, 1, (.c (.int .i64 128))), (27, 1, (.c (.int .i64 128))), (28, 1, (.c (.int .i64 20))), (29, 1, (.c (.int .i64 8))), (30, 1, (.c (.int .i64 8))), (31, 1, (.c (.int .i64 128))), (32, 1, (.c (.int .i64 48))), (33, 1, (.c (.int .i64 48))), (34, 1, (.c (.int .i64 20))), (35, 1, (.c (.int .i64 3))), (36, 1, (.c (.int .i64 1))), (37, 1, (.c (.int .i64 24))), (38, 1, (.c (.int .i64 64))), (39, 1, (.c (.int .i64 9)))], none⟩ : IOper) ::
     (⟨(some 3), .box [.int .i64 0, .int .i64 0, .int .i64 0, .int .i64 0, .int .i64 0, .int .i64 0, .int .i64 0, .int .i64 0, .int .i64 0, .int .i64 0, .int .i64 0, .int .i64 0, .int .i64 0, .int .i64 0, .int .i64 0, .int .i64 0, .int .i64 0, .int .i64 0, .int .i64 0, .int .i64 0, .int .i64 0, .int .i64 0, .int .i64 0, .int .i64 0, .int .i64 0, .int .i64 0, .int .i64 0, .int .i64 0, .int .i64 0, .int .i64 0, .int .i64 0, .int .i64 0, .int .i64 0, .int .i64 0, .int .i64 0, .int .i64 0, .int .i64 0, .int .i64 0, .int .i64 0, .int .i64 0], none⟩ : IOper) ::
     (⟨none, .store 40 (.t 3) (.t 4), none⟩ : IOper) ::
     []))
   (.seq
    (.reg ((⟨(some 5), .mov (.t 0), none⟩ : IOper) ::
      (⟨(some 6), .indexArr 1 40 (.t 3) (.t 5), none⟩ : IOper) ::
      (⟨(some 7), .loadI .i64 (.t 6), none⟩ : IOper) ::
      (⟨(some 2), .mov (.t 7), none⟩ : IOper) ::
      []))
    .ret)))
def rd_field_bits : List RD := [.tmp 2 true none]
theorem ok_field_bits : fnOk Try.prog Try.f21 ir_field_bits rd_field_bits = true := by kernel_rfl
def ir_field_masked : IR :=
 (.seq
  (.reg ((⟨(some 2), .mov (.c (.kb false)), none⟩ : IOper) ::
    []))
  (.seq
   (.seq
    (.reg ((⟨(some 3), .mov (.t 0), none⟩ : IOper) ::
      []))
    (.block 0
     (.seq
      (.block 2
       (.block 1
        (.seq
         (.seq
          (.seq
           (.seq
            (.reg ((⟨(some 5), .bin .eql (.t 3) (.c (.int .i64 2)), none⟩ : IOper) ::
              (⟨(some 4), .mov (.t 5), none⟩ : IOper) ::
              []))
            (.cond (.t 4)
             .skip
             (.seq
              (.reg ((⟨(some 6), .bin .eql (.t 3) (.c (.int .i64 3)), none⟩ : IOper) ::
                (⟨(some 4), .mov (.t 6), none⟩ : IOper) ::
                []))
              (.cond (.t 4)
               .skip
               (.seq
                (.reg ((⟨(some 7), .bin .eql (.t 3) (.c (.int .i64 4)), none⟩ : IOper) ::
                  (⟨(some 4), .mov (.t 7), none⟩ : IOper) ::
                  []))
                (.cond (.t 4)
                 .skip
                 (.seq
                  (.reg ((⟨(some 8), .bin .eql (.t 3) (.c (.int .i64 6)), none⟩ : IOper) ::
                    (⟨(some 4), .mov (.t 8), none⟩ : IOper) ::
                    []))
                  (.cond (.t 4)
                   .skip
                   (.seq
                    (.reg ((⟨(some 9), .bin .eql (.t 3) (.c (.int .i64 11)), none⟩ : IOper) ::
                      (⟨(some 4), .mov (.t 9), none⟩ : IOper) ::
                      []))
                    (.cond (.t 4)
                     .skip
                     (.seq
                      (.reg ((⟨(some 10), .bin .eql (.t 3) (.c (.int .i64 12)), none⟩ : IOper) ::
                        (⟨(some 4), .mov (.t 10), none⟩ : IOper) ::
                        []))
                      (.cond (.t 4)
                       .skip
                       (.seq
                        (.reg ((⟨(some 11), .bin .eql (.t 3) (.c (.int .i64 37)), none⟩ : IOper) ::
                          (⟨(some 4), .mov (.t 11), none⟩ : IOper) ::
                          []))
                        (.cond (.t 4)
                         .skip
                         (.seq
                          (.reg ((⟨(some 12), .bin .eql (.t 3) (.c (.int .i64 38)), none⟩ : IOper) ::
                            (⟨(some 4), .mov (.t 12), none⟩ : IOper) ::
                            []))
                          (.cond (.t 4)
                           .skip
                           (.reg ((⟨(some 13), .bin .eql (.t 3) (.c (.int .i64 39)), none⟩ : IOper) ::
                             (⟨(some 4), .mov (.t 13), none⟩ : IOper) ::
                             []))))))))))))))))))
           (.cond (.t 4)
            (.exit 1)
            .skip))
          (.seq
           (.seq
            (.reg ((⟨(some 15), .bin .eql (.t 3) (.c (.int .i64 22)), none⟩ : IOper) ::
              (⟨(some 14), .mov (.t 15), none⟩ : IOper) ::
              []))
            (.cond (.t 14)
             .skip
             (.seq
              (.reg ((⟨(some 16), .bin .eql (.t 3) (.c (.int .i64 23)), none⟩ : IOper) ::
                (⟨(some 14), .mov (.t 16), none⟩ : IOper) ::
                []))
              (.cond (.t 14)
               .skip
               (.seq
                (.reg ((⟨(some 17), .bin .eql (.t 3) (.c (.int .i64 24)), none⟩ : IOper) ::
                  (⟨(some 14), .mov (.t 17), none⟩ : IOper) ::
                  []))
                (.cond (.t 14)
                 .skip
                 (.seq
                  (.reg ((⟨(some 18), .bin .eql (.t 3) (.c (.int .i64 25)), none⟩ : IOper) ::
                    (⟨(some 14), .mov (.t 18), none⟩ : IOper) ::
                    []))
                  (.cond (.t 14)
                   .skip
                   (.seq
                    (.reg ((⟨(some 19), .bin .eql (.t 3) (.c (.int .i64 26)), none⟩ : IOper) ::
                      (⟨(some 14), .mov (.t 19), none⟩ : IOper) ::
                      []))
                    (.cond (.t 14)
                     .skip
                     (.seq
                      (.reg ((⟨(some 20), .bin .eql (.t 3) (.c (.int .i64 27)), none⟩ : IOper) ::
                        (⟨(some 14), .mov (.t 20), none⟩ : IOper) ::
                        []))
                      (.cond (.t 14)
                       .skip
                       (.reg ((⟨(some 21), .bin .eql (.t 3) (.c (.int .i64 28)), none⟩ : IOper) ::
                         (⟨(some 14), .mov (.t 21), none⟩ : IOper) ::
                         []))))))))))))))
           (.cond (.t 14)
            (.exit 2)
            .skip)))
         (.exit 0))))
      (.seq
       (.seq
        (.reg ((⟨(some 2), .mov (.c (.kb true)), none⟩ : IOper) ::
          []))
        .ret)
       (.exit 0)))))
   (.seq
    (.reg ((⟨(some 2), .mov (.c (.kb false)), none⟩ : IOper) ::
      []))
    .ret)))
def rd_field_masked : List RD := [.tmp 2 true none]
theorem ok_field_masked : fnOk Try.prog Try.f22 ir_field_masked rd_field_masked = true := by kernel_rfl
def ir_field_need : IR :=
 (.seq
  (.reg ((⟨(some 2), .mov (.c (.int .i64 0)), none⟩ : IOper) ::
    (⟨(some 3), .mov (.c (.imm (.int .u64) [])), none⟩ : IOper) ::
    []))
  (.seq
   (.seq
    (.reg ((⟨(some 4), .mov (.t 0), none⟩ : IOper) ::
      []))
    (.block 0
     (.seq
      (.reg ((⟨(some 6), .bin .eql (.t 4) (.c (.int .i64 1)), none⟩ : IOper) ::
        (⟨(some 5), .mov (.t 6), none⟩ : IOper) ::
        []))
      (.cond (.t 5)
       (.seq
        (.reg ((⟨(some 2), .mov (.c (.int .i64 0)), none⟩ : IOper) ::
          (⟨(some 3), .mov (.c (.imm (.int .u64) [])), none⟩ : IOper) ::
          []))
        .ret)
       (.seq
        (.reg ((⟨(some 8), .bin .eql (.t 4) (.c (.int .i64 7)), none⟩ : IOper) ::
          (⟨(some 7), .mov (.t 8), none⟩ : IOper) ::
          []))
        (.cond (.t 7)
         (.seq
          (.reg ((⟨(some 2), .mov (.c (.int .i64 6)), none⟩ : IOper) ::
            (⟨(some 3), .mov (.c (.imm (.int .u64) [])), none⟩ : IOper) ::
            []))
          .ret)
         (.seq
          (.seq
           (.reg ((⟨(some 10), .bin .eql (.t 4) (.c (.int .i64 8)), none⟩ : IOper) ::
             (⟨(some 9), .mov (.t 10), none⟩ : IOper) ::
             []))
           (.cond (.t 9)
            .skip
            (.seq
             (.reg ((⟨(some 11), .bin .eql (.t 4) (.c (.int .i64 9)), none⟩ : IOper) ::
               (⟨(some 9), .mov (.t 11), none⟩ : IOper) ::
               []))
             (.cond (.t 9)
              .skip
              (.reg ((⟨(some 12), .bin .eql (.t 4) (.c (.int .i64 10)), none⟩ : IOper) ::
                (⟨(some 9), .mov (.t 12), none⟩ : IOper) ::
                []))))))
          (.cond (.t 9)
           (.seq
            (.reg ((⟨(some 13), .sliceAll (.int .u64) 2 [(0, 1, (.c (.int .u64 2048))), (1, 1, (.c (.int .u64 34525)))], none⟩ : IOper) ::
              (⟨(some 2), .mov (.c (.int .i64 5)), none⟩ : IOper) ::
              (⟨(some 3), .mov (.t 13), none⟩ : IOper) ::
              []))
            .ret)
           (.seq
            (.seq
             (.reg ((⟨(some 15), .bin .eql (.t 4) (.c (.int .i64 11)), none⟩ : IOper) ::
               (⟨(some 14), .mov (.t 15), none⟩ : IOper) ::
               []))
             (.cond (.t 14)
              .skip
              (.reg ((⟨(some 16), .bin .eql (.t 4) (.c (.int .i64 12)), none⟩ : IOper) ::
                (⟨(some 14), .mov (.t 16), none⟩ : IOper) ::
                []))))
            (.cond (.t 14)
             (.seq
              (.reg ((⟨(some 17), .sliceAll (.int .u64) 1 [(0, 1, (.c (.int .u64 2048)))], none⟩ : IOper) ::
                (⟨(some 2), .mov (.c (.int .i64 5)), none⟩ : IOper) ::
                (⟨(some 3), .mov (.t 17), none⟩ : IOper) ::
                []))
              .ret)
             (.seq
              (.seq
               (.reg ((⟨(some 19), .bin .eql (.t 4) (.c (.int .i64 21)), none⟩ : IOper) ::
                 (⟨(some 18), .mov (.t 19), none⟩ : IOper) ::
                 []))
               (.cond (.t 18)
                .skip
                (.seq
                 (.reg ((⟨(some 20), .bin .eql (.t 4) (.c (.int .i64 22)), none⟩ : IOper) ::
                   (⟨(some 18), .mov (.t 20), none⟩ : IOper) ::
                   []))
                 (.cond (.t 18)
                  .skip
                  (.seq
                   (.reg ((⟨(some 21), .bin .eql (.t 4) (.c (.int .i64 23)), none⟩ : IOper) ::
                     (⟨(some 18), .mov (.t 21), none⟩ : IOper) ::
                     []))
                   (.cond (.t 18)
                    .skip
                    (.seq
                     (.reg ((⟨(some 22), .bin .eql (.t 4) (.c (.int .i64 24)), none⟩ : IOper) ::
                       (⟨(some 18), .mov (.t 22), none⟩ : IOper) ::
                       []))
                     (.cond (.t 18)
                      .skip
                      (.reg ((⟨(some 23), .bin .eql (.t 4) (.c (.int .i64 25)), none⟩ : IOper) ::
                        (⟨(some 18), .mov (.t 23), none⟩ : IOper) ::
                        []))))))))))
              (.cond (.t 18)
               (.seq
                (.reg ((⟨(some 24), .sliceAll (.int .u64) 1 [(0, 1, (.c (.int .u64 2054)))], none⟩ : IOper) ::
                  (⟨(some 2), .mov (.c (.int .i64 5)), none⟩ : IOper) ::
                  (⟨(some 3), .mov (.t 24), none⟩ : IOper) ::
                  []))
                .ret)
               (.seq
                (.seq
                 (.reg ((⟨(some 26), .bin .eql (.t 4) (.c (.int .i64 26)), none⟩ : IOper) ::
                   (⟨(some 25), .mov (.t 26), none⟩ : IOper) ::
                   []))
                 (.cond (.t 25)
                  .skip
                  (.seq
                   (.reg ((⟨(some 27), .bin .eql (.t 4) (.c (.int .i64 27)), none⟩ : IOper) ::
                     (⟨(some 25), .mov (.t 27), none⟩ : IOper) ::
                     []))
                   (.cond (.t 25)
                    .skip
                    (.seq
                     (.reg ((⟨(some 28), .bin .eql (.t 4) (.c (.int .i64 28)), none⟩ : IOper) ::
                       (⟨(some 25), .mov (.t 28), none⟩ : IOper) ::
                       []))
                     (.cond (.t 25)
                      .skip
                      (.reg ((⟨(some 29), .bin .eql (.t 4) (.c (.int .i64 39)), none⟩ : IOper) ::
                        (⟨(some 25), .mov (.t 29), none⟩ : IOper) ::
                        []))))))))
                (.cond (.t 25)
                 (.seq
                  (.reg ((⟨(some 30), .sliceAll (.int .u64) 1 [(0, 1, (.c (.int .u64 34525)))], none⟩ : IOper) ::
                    (⟨(some 2), .mov (.c (.int .i64 5)), none⟩ : IOper) ::
                    (⟨(some 3), .mov (.t 30), none⟩ : IOper) ::
                    []))
                  .ret)
                 (.seq
                  (.seq
                   (.reg ((⟨(some 32), .bin .eql (.t 4) (.c (.int .i64 34)), none⟩ : IOper) ::
                     (⟨(some 31), .mov (.t 32), none⟩ : IOper) ::
                     []))
                   (.cond (.t 31)
                    .skip
                    (.seq
                     (.reg ((⟨(some 33), .bin .eql (.t 4) (.c (.int .i64 35)), none⟩ : IOper) ::
                       (⟨(some 31), .mov (.t 33), none⟩ : IOper) ::
                       []))
                     (.cond (.t 31)
                      .skip
                      (.reg ((⟨(some 34), .bin .eql (.t 4) (.c (.int .i64 36)), none⟩ : IOper) ::
                        (⟨(some 31), .mov (.t 34), none⟩ : IOper) ::
                        []))))))
                  (.cond (.t 31)
                   (.seq
                    (.reg ((⟨(some 35), .sliceAll (.int .u64) 2 [(0, 1, (.c (.int .u64 34887))), (1, 1, (.c (.int .u64 34888)))], none⟩ : IOper) ::
                      (⟨(some 2), .mov (.c (.int .i64 5)), none⟩ : IOper) ::
                      (⟨(some 3), .mov (.t 35), none⟩ : IOper) ::
                      []))
                    .ret)
                   (.seq
                    (.reg ((⟨(some 37), .bin .eql (.t 4) (.c (.int .i64 37)), none⟩ : IOper) ::
                      (⟨(some 36), .mov (.t 37), none⟩ : IOper) ::
                      []))
                    (.cond (.t 36)
                     (.seq
                      (.reg ((⟨(some 38), .sliceAll (.int .u64) 1 [(0, 1, (.c (.int .u64 35047)))], none⟩ : IOper) ::
                        (⟨(some 2), .mov (.c (.int .i64 5)), none⟩ : IOper) ::
                        (⟨(some 3), .mov (.t 38), none⟩ : IOper) ::
                        []))
                      .ret)
                     .skip))))))))))))))))))
   (.seq
    (.reg ((⟨(some 39), .mov (.t 0), none⟩ : IOper) ::
      (⟨(some 40), .call false (.f 28) [(.t 39)], none⟩ : IOper) ::
      (⟨(some 41), .extract (.t 40) 0, none⟩ : IOper) ::
      (⟨(some 42), .extract (.t 40) 1, none⟩ : IOper) ::
      (⟨(some 2), .mov (.t 41), none⟩ : IOper) ::
      (⟨(some 3), .mov (.t 42), none⟩ : IOper) ::
      []))
    .ret)))
def rd_field_need : List RD := [.tmp 2 true none, .tmp 3 true (some (.int .u64))]
theorem ok_field_need : fnOk Try.prog Try.f23 ir_field_need rd_field_need = true := by kernel_rfl
def ir_r07_All : IR :=
 (.seq
  (.reg ((⟨(some 0), .mov (.c (.imm (.cons .str (.cons (.int .i64) (.cons (.int .i64) (.cons .bool (.cons (.int .i64) (.cons (.sl (.int .u64)) .nil)))))) [])), none⟩ : IOper) ::
    []))
  (.seq
   (.reg ((⟨(some 1), .buildAll 6 [(0, 1, (.c (.str [105, 110, 95, 112, 111, 114, 116]))), (1, 1, (.c (.int .i64 32))), (2, 1, (.c (.int .i64 4))), (3, 1, (.c (.kb false))), (4, 1, (.c (.int .i64 (-1)))), (5, 1, (.c (.imm (.int .u64) [])))], none⟩ : IOper) ::
     (⟨(some 2), .buildAll 6 [(0, 1, (.c (.str [105, 110, 95, 112, 104, 121, 95, 112, 111, 114, 116]))), (1, 1, (.c (.int .i64 32))), (2, 1, (.c (.int .i64 4))), (3, 1, (.c (.kb false))), (4, 1, (.c (.int .i64 0))), (5, 1, (.c (.imm (.int .u64) [])))], none⟩ : IOper) ::
     (⟨(some 3), .buildAll 6 [(0, 1, (.c (.str [109, 101, 116, 97, 100, 97, 116, 97]))), (1, 1, (.c (.int .i64 64))), (2, 1, (.c (.int .i64 8))), (3, 1, (.c (.kb true))), (4, 1, (.c (.int .i64 (-1)))), (5, 1, (.c (.imm (.int .u64) [])))], none⟩ : IOper) ::
     (⟨(some 4), .buildAll 6 [(0, 1, (.c (.str [101, 116, 104, 95, 100, 115, 116]))), (1, 1, (.c (.int .i64 48))), (2, 1, (.c (.int .i64 6))), (3, 1, (.c (.kb true))), (4, 1, (.c (.int .i64 (-1)))), (5, 1, (.c (.imm (.int .u64) [])))], none⟩ : IOper) ::
     (⟨(some 5), .buildAll 6 [(0, 1, (.c (.str [101, 116, 104, 95, 115, 114, 99]))), (1, 1, (.c (.int .i64 48))), (2, 1, (.c (.int .i64 6))), (3, 1, (.c (.kb true))), (4, 1, (.c (.int .i64 (-1)))), (5, 1, (.c (.imm (.int .u64) [])))], none⟩ : IOper) ::
     (⟨(some 6), .buildAll 6 [(0, 1, (.c (.str [101, 116, 104, 95, 116, 121, 112, 101]))), (1, 1, (.c (.int .i64 16))), (2, 1, (.c (.int .i64 2))), (3, 1, (.c (.kb false))), (4, 1, (.c (.int .i64 (-1)))), (5, 1, (.c (.imm (.int .u64) [])))], none⟩ : IOper) ::
     (⟨(some 7), .buildAll 6 [(0, 1, (.c (.str [118, 108, 97, 110, 95, 118, 105, 100]))), (1, 1, (.c (.int .i64 13))), (2, 1, (.c (.int .i64 2))), (3, 1, (.c (.kb true))), (4, 1, (.c (.int .i64 (-1)))), (5, 1, (.c (.imm (.int .u64) [])))], none⟩ : IOper) ::
     (⟨(some 8), .buildAll 6 [(0, 1, (.c (.str [118, 108, 97, 110, 95, 112, 99, 112]))), (1, 1, (.c (.int .i64 3))), (2, 1, (.c (.int .i64 1))), (3, 1, (.c (.kb false))), (4, 1, (.c (.int .i64 6))), (5, 1, (.c (.imm (.int .u64) [])))], none⟩ : IOper) ::
     (⟨(some 9), .sliceAll (.int .u64) 2 [(0, 1, (.c (.int .u64 2048))), (1, 1, (.c (.int .u64 34525)))], none⟩ : IOper) ::
     (⟨(some 10), .buildAll 6 [(0, 1, (.c (.str [105, 112, 95, 100, 115, 99, 112]))), (1, 1, (.c (.int .i64 6))), (2, 1, (.c (.int .i64 1))), (3, 1, (.c (.kb false))), (4, 1, (.c (.int .i64 5))), (5, 1, (.t 9))], none⟩ : IOper) ::
     (⟨(some 11), .sliceAll (.int .u64) 2 [(0, 1, (.c (.int .u64 2048))), (1, 1, (.c (.int .u64 34525)))], none⟩ : IOper) ::
     (⟨(some 12), .buildAll 6 [(0, 1, (.c (.str [105, 112, 95, 101, 99, 110]))), (1, 1, (.c (.int .i64 2))), (2, 1, (.c (.int .i64 1))), (3, 1, (.c (.kb false))), (4, 1, (.c (.int .i64 5))), (5, 1, (.t 11))], none⟩ : IOper) ::
     (⟨(some 13), .sliceAll (.int .u64) 2 [(0, 1, (.c (.int .u64 2048))), (1, 1, (.c (.int .u64 34525)))], none⟩ : IOper) ::
     (⟨(some 14), .buildAll 6 [(0, 1, (.c (.str [105, 112, 95, 112, 114, 111, 116, 111]))), (1, 1, (.c (.int .i64 8))), (2, 1, (.c (.int .i64 1))), (3, 1, (.c (.kb false))), (4, 1, (.c (.int .i64 5))), (5, 1, (.t 13))], none⟩ : IOper) ::
     (⟨(some 15), .sliceAll (.int .u64) 1 [(0, 1, (.c (.int .u64 2048)))], none⟩ : IOper) ::
     (⟨(some 16), .buildAll 6 [(0, 1, (.c (.str [105, 112, 118, 52, 95, 115, 114, 99]))), (1, 1, (.c (.int .i64 32))), (2, 1, (.c (.int .i64 4))), (3, 1, (.c (.kb true))), (4, 1, (.c (.int .i64 5))), (5, 1, (.t 15))], none⟩ : IOper) ::
     (⟨(some 17), .sliceAll (.int .u64) 1 [(0, 1, (.c (.int .u64 2048)))], none⟩ : IOper) ::
     (⟨(some 18), .buildAll 6 [(0, 1, (.c (.str [105, 112, 118, 52, 95, 100, 115, 116]))), (1, 1, (.c (.int .i64 32))), (2, 1, (.c (.int .i64 4))), (3, 1, (.c (.kb true))), (4, 1, (.c (.int .i64 5))), (5, 1, (.t 17))], none⟩ : IOper) ::
     (⟨(some 19), .sliceAll (.int .u64) 1 [(0, 1, (.c (.int .u64 6)))], none⟩ : IOper) ::
     (⟨(some 20), .buildAll 6 [(0, 1, (.c (.str [116, 99, 112, 95, 115, 114, 99]))), (1, 1, (.c (.int .i64 16))), (2, 1, (.c (.int .i64 2))), (3, 1, (.c (.kb false))), (4, 1, (.c (.int .i64 10))), (5, 1, (.t 19))], none⟩ : IOper) ::
     (⟨(some 21), .sliceAll (.int .u64) 1 [(0, 1, (.c (.int .u64 6)))], none⟩ : IOper) ::
     (⟨(some 22), .buildAll 6 [(0, 1, (.c (.str [116, 99, 112, 95, 100, 115, 116]))), (1, 1, (.c (.int .i64 16))), (2, 1, (.c (.int .i64 2))), (3, 1, (.c (.kb false))), (4, 1, (.c (.int .i64 10))), (5, 1, (.t 21))], none⟩ : IOper) ::
     (⟨(some 23), .sliceAll (.int .u64) 1 [(0, 1, (.c (.int .u64 17)))], none⟩ : IOper) ::
     (⟨(some 24), .buildAll 6 [(0, 1, (.c (.str [117, 100, 112, 95, 115, 114, 99]))), (1, 1, (.c (.int .i64 16))), (2, 1, (.c (.int .i64 2))), (3, 1, (.c (.kb false))), (4, 1, (.c (.int .i64 10))), (5, 1, (.t 23))], none⟩ : IOper) ::
     (⟨(some 25), .sliceAll (.int .u64) 1 [(0, 1, (.c (.int .u64 17)))], none⟩ : IOper) ::
     (⟨(some 26), .buildAll 6 [(0, 1, (.c (.str [117, 100, 112, 95, 100, 115, 116]))), (1, 1, (.c (.int .i64 16))), (2, 1, (.c (.int .i64 2))), (3, 1, (.c (.kb false))), (4, 1, (.c (.int .i64 10))), (5, 1, (.t 25))], none⟩ : IOper) ::
     (⟨(some 27), .sliceAll (.int .u64) 1 [(0, 1, (.c (.int .u64 132)))], none⟩ : IOper) ::
     (⟨(some 28), .buildAll 6 [(0, 1, (.c (.str [115, 99, 116, 112, 95, 115, 114, 99]))), (1, 1, (.c (.int .i64 16))), (2, 1, (.c (.int .i64 2))), (3, 1, (.c (.kb false))), (4, 1, (.c (.int .i64 10))), (5, 1, (.t 27))], none⟩ : IOper) ::
     (⟨(some 29), .sliceAll (.int .u64) 1 [(0, 1, (.c (.int .u64 132)))], none⟩ : IOper) ::
     (⟨(some 30), .buildAll 6 [(0, 1, (.c (.str [115, 99, 116, 112, 95, 100, 115, 116]))), (1, 1, (.c (.int .i64 16))), (2, 1, (.c (.int .i64 2))), (3, 1, (.c (.kb false))), (4, 1, (.c (.int .i64 10))), (5, 1, (.t 29))], none⟩ : IOper) ::
     (⟨(some 31), .sliceAll (.int .u64) 1 [(0, 1, (.c (.int .u64 1)))], none⟩ : IOper) ::
     (⟨(some 32), .buildAll 6 [(0, 1, (.c (.str [105, 99, 109, 112, 118, 52, 95, 116, 121, 112, 101]))), (1, 1, (.c (.int .i64 8))), (2, 1, (.c (.int .i64 1))), (3, 1, (.c (.kb false))), (4, 1, (.c (.int .i64 10))), (5, 1, (.t 31))], none⟩ : IOper) ::
     (⟨(some 33), .sliceAll (.int .u64) 1 [(0, 1, (.c (.int .u64 1)))], none⟩ : IOper) ::
     (⟨(some 34), .buildAll 6 [(0, 1, (.c (.str [105, 99, 109, 112, 118, 52, 95, 99, 111, 100, 101]))), (1, 1, (.c (.int .i64 8))), (2, 1, (.c (.int .i64 1))), (3, 1, (.c (.kb false))), (4, 1, (.c (.int .i64 10))), (5, 1, (.t 33))], none⟩ : IOper) ::
     (⟨(some 35), .sliceAll (.int .u64) 1 [(0, 1, (.c (.int .u64 2054)))], none⟩ : IOper) ::
     (⟨(some 36), .buildAll 6 [(0, 1, (.c (.str [97, 114, 112, 95, 111, 112]))), (1, 1, (.c (.int .i64 16))), (2, 1, (.c (.int .i64 2))), (3, 1, (.c (.kb false))), (4, 1, (.c (.int .i64 5))), (5, 1, (.t 35))], none⟩ : IOper) ::
     (⟨(some 37), .sliceAll (.int .u64) 1 [(0, 1, (.c (.int .u64 2054)))], none⟩ : IOper) ::
     (⟨(some 38), .buildAll 6 [(0, 1, (.c (.str [97, 114, 112, 95, 115, 112, 97]))), (1, 1, (.c (.int .i64 32))), (2, 1, (.c (.int .i64 4))), (3, 1, (.c (.kb true))), (4, 1, (.c (.int .i64 5))), (5, 1, (.t 37))], none⟩ : IOper) ::
     (⟨(some 39), .sliceAll (.int .u64) 1 [(0, 1, (.c (.int .u64 2054)))], none⟩ : IOper) ::
     (⟨(some 40), .buildAll 6 [(0, 1, (.c (.str [97, 114, 112, 95, 116, 112, 97]))), (1, 1, (.c (.int .i64 32))), (2, 1, (.c (.int .i64 4))), (3, 1, (.c (.kb true))), (4, 1, (.c (.int .i64 5))), (5, 1, (.t 39))], none⟩ : IOper) ::
     (⟨(some 41), .sliceAll (.int .u64) 1 [(0, 1, (.c (.int .u64 2054)))], none⟩ : IOper) ::
     (⟨(some 42), .buildAll 6 [(0, 1, (.c (.str [97, 114, 112, 95, 115, 104, 97]))), (1, 1, (.c (.int .i64 48))), (2, 1, (.c (.int .i64 6))), (3, 1, (.c (.kb true))), (4, 1, (.c (.int .i64 5))), (5, 1, (.t 41))], none⟩ : IOper) ::
     (⟨(some 43), .sliceAll (.int .u64) 1 [(0, 1, (.c (.int .u64 2054)))], none⟩ : IOper) ::
     (⟨(some 44), .buildAll 6 [(0, 1, (.c (.str [97, 114, 112, 95, 116, 104, 97]))), (1, 1, (.c (.int .i64 48))), (2, 1, (.c (.int .i64 6))), (3, 1, (.c (.kb true))), (4, 1, (.c (.int .i64 5))), (5, 1, (.t 43))], none⟩ : IOper) ::
     (⟨(some 45), .sliceAll (.int .u64) 1 [(0, 1, (.c (.int .u64 34525)))], none⟩ : IOper) ::
     (⟨(some 46), .buildAll 6 [(0, 1, (.c (.str [105, 112, 118, 54, 95, 115, 114, 99]))), (1, 1, (.c (.int .i64 128))), (2, 1, (.c (.int .i64 16))), (3, 1, (.c (.kb true))), (4, 1, (.c (.int .i64 5))), (5, 1, (.t 45))], none⟩ : IOper) ::
     (⟨(some 47), .sliceAll (.int .u64) 1 [(0, 1, (.c (.int .u64 34525)))], none⟩ : IOper) ::
     (⟨(some 48), .buildAll 6 [(0, 1, (.c (.str [105, 112, 118, 54, 95, 100, 115, 116]))), (1, 1, (.c (.int .i64 128))), (2, 1, (.c (.int .i64 16))), (3, 1, (.c (.kb true))), (4, 1, (.c (.int .i64 5))), (5, 1, (.t 47))], none⟩ : IOper) ::
     (⟨(some 49), .sliceAll (.int .u64) 1 [(0, 1, (.c (.int .u64 34525)))], none⟩ : IOper) ::
     (⟨(some 50), .buildAll 6 [(0, 1, (.c (.str [105, 112, 118, 54, 95, 102, 108, 97, 98, 101, 108]))), (1, 1, (.c (.int .i64 20))), (2, 1, (.c (.int .i64 4))), (3, 1, (.c (.kb true))), (4, 1, (.c (.int .i64 5))), (5, 1, (.t 49))], none⟩ : IOper) ::
     (⟨(some 51), .sliceAll (.int .u64) 1 [(0, 1, (.c (.int .u64 58)))], none⟩ : IOper) ::
     (⟨(some 52), .buildAll 6 [(0, 1, (.c (.str [105, 99, 109, 112, 118, 54, 95, 116, 121, 112, 101]))), (1, 1, (.c (.int .i64 8))), (2, 1, (.c (.int .i64 1))), (3, 1, (.c (.kb false))), (4, 1, (.c (.int .i64 10))), (5, 1, (.t 51))], none⟩ : IOper) ::
     (⟨(some 53), .sliceAll (.int .u64) 1 [(0, 1, (.c (.int .u64 58)))], none⟩ : IOper) ::
     (⟨(some 54), .buildAll 6 [(0, 1, (.c (.str [105, 99, 109, 112, 118, 54, 95, 99, 111, 100, 101]))), (1, 1, (.c (.int .i64 8))), (2, 1, (.c (.int .i64 1))), (3, 1, (.c (.kb false))), (4, 1, (.c (.int .i64 10))), (5, 1, (.t 53))], none⟩ : IOper) ::
     (⟨(some 55), .sliceAll (.int .u64) 2 [(0, 1, (.c (.int .u64 135))), (1, 1, (.c (.int .u64 136)))], none⟩ : IOper) ::
     (⟨(some 56), .buildAll 6 [(0, 1, (.c (.str [105, 112, 118, 54, 95, 110, 100, 95, 116, 97, 114, 103, 101, 116]))), (1, 1, (.c (.int .i64 128))), (2, 1, (.c (.int .i64 16))), (3, 1, (.c (.kb false))), (4, 1, (.c (.int .i64 29))), (5, 1, (.t 55))], none⟩ : IOper) ::
     (⟨(some 57), .sliceAll (.int .u64) 1 [(0, 1, (.c (.int .u64 135)))], none⟩ : IOper) ::
     (⟨(some 58), .buildAll 6 [(0, 1, (.c (.str [105, 112, 118, 54, 95, 110, 100, 95, 115, 108, 108]))), (1, 1, (.c (.int .i64 48))), (2, 1, (.c (.int .i64 6))), (3, 1, (.c (.kb false))), (4, 1, (.c (.int .i64 29))), (5, 1, (.t 57))], none⟩ : IOper) ::
     (⟨(some 59), .sliceAll (.int .u64) 1 [(0, 1, (.c (.int .u64 136)))], none⟩ : IOper) ::
     (⟨(some 60), .buildAll 6 [(0, 1, (.c (.str [105, 112, 118, 54, 95, 110, 100, 95, 116, 108, 108]))), (1, 1, (.c (.int .i64 48))), (2, 1, (.c (.int .i64 6))), (3, 1, (.c (.kb false))), (4, 1, (.c (.int .i64 29))), (5, 1, (.t 59))], none⟩ : IOper) ::
     (⟨(some 61), .sliceAll (.int .u64) 2 [(0, 1, (.c (.int .u64 34887))), (1, 1, (.c (.int .u64 34888)))], none⟩ : IOper) ::
     (⟨(some 62), .buildAll 6 [(0, 1, (.c (.str [109, 112, 108, 115, 95, 108, 97, 98, 101, 108]))), (1, 1, (.c (.int .i64 20))), (2, 1, (.c (.int .i64 4))), (3, 1, (.c (.kb false))), (4, 1, (.c (.int .i64 5))), (5, 1, (.t 61))], none⟩ : IOper) ::
     (⟨(some 63), .sliceAll (.int .u64) 2 [(0, 1, (.c (.int .u64 34887))), (1, 1, (.c (.int .u64 34888)))], none⟩ : IOper) ::
     (⟨(some 64), .buildAll 6 [(0, 1, (.c (.str [109, 112, 108, 115, 95, 116, 99]))), (1, 1, (.c (.int .i64 3))), (2, 1, (.c (.int .i64 1))), (3, 1, (.c (.kb false))), (4, 1, (.c (.int .i64 5))), (5, 1, (.t 63))], none⟩ : IOper) ::
     (⟨(some 65), .sliceAll (.int .u64) 2 [(0, 1, (.c (.int .u64 34887))), (1, 1, (.c (.int .u64 34888)))], none⟩ : IOper) ::
     (⟨(some 66), .buildAll 6 [(0, 1, (.c (.str [109, 112, 108, 115, 95, 98, 111, 115]))), (1, 1, (.c (.int .i64 1))), (2, 1, (.c (.int .i64 1))), (3, 1, (.c (.kb false))), (4, 1, (.c (.int .i64 5))), (5, 1, (.t 65))], none⟩ : IOper) ::
     (⟨(some 67), .sliceAll (.int .u64) 1 [(0, 1, (.c (.int .u64 35047)))], none⟩ : IOper) ::
     (⟨(some 68), .buildAll 6 [(0, 1, (.c (.str [112, 98, 98, 95, 105, 115, 105, 100]))), (1, 1, (.c (.int .i64 24))), (2, 1, (.c (.int .i64 3))), (3, 1, (.c (.kb true))), (4, 1, (.c (.int .i64 5))), (5, 1, (.t 67))], none⟩ : IOper) ::
     (⟨(some 69), .buildAll 6 [(0, 1, (.c (.str [116, 117, 110, 110, 101, 108, 95, 105, 100]))), (1, 1, (.c (.int .i64 64))), (2, 1, (.c (.int .i64 8))), (3, 1, (.c (.kb true))), (4, 1, (.c (.int .i64 (-1)))), (5, 1, (.c (.imm (.int .u64) [])))], none⟩ : IOper) ::
     (⟨(some 70), .sliceAll (.int .u64) 1 [(0, 1, (.c (.int .u64 34525)))], none⟩ : IOper) ::
     (⟨(some 71), .buildAll 6 [(0, 1, (.c (.str [105, 112, 118, 54, 95, 101, 120, 116, 104, 100, 114]))), (1, 1, (.c (.int .i64 9))), (2, 1, (.c (.int .i64 2))), (3, 1, (.c (.kb true))), (4, 1, (.c (.int .i64 5))), (5, 1, (.t 70))], none⟩ : IOper) ::
     (⟨(some 72), .sliceAll (.cons .str (.cons (.int .i64) (.cons (.int .i64) (.cons .bool (.cons (.int .i64) (.cons (.sl (.int .u64)) .nil)))))) 40 [(0, 6, (.t 1)), (6, 6, (.t 2)), (12, 6, (.t 3)), (18, 6, (.t 4)), (24, 6, (.t 5)), (30, 6, (.t 6)), (36, 6, (.t 7)), (42, 6, (.t 8)), (48, 6, (.t 10)), (54, 6, (.t 12)), (60, 6, (.t 14)), (66, 6, (.t 16)), (72, 6, (.t 18)), (78, 6, (.t 20)), (84, 6, (.t 22)), (90, 6, (.t 24)), (96, 6, (.t 26)), (102, 6, (.t 28)), (108, 6, (.t 30)), (114, 6, (.t 32)), (120, 6, (.t 34)), (126, 6, (.t 36)), (132, 6, (.t 38)), (138, 6, (.t 40)), (144, 6, (.t 42)), (150, 6, (.t 44)), (156, 6, (.t 46)), (162, 6, (.t 48)), (168, 6, (.t 50)), (174, 6, (.t 52)), (180, 6, (.t 54)), (186, 6, (.t 56)), (192, 6, (.t 58)), (198, 6, (.t 60)), (204, 6, (.t 62)), (210, 6, (.t 64)), (216, 6, (.t 66)), (222, 6, (.t 68)), (228, 6, (.t 69)), (234, 6, (.t 71))], none⟩ : IOper) ::
     (⟨(some 0), .mov (.t 72), none⟩ : IOper) ::
     []))
   .ret))
def rd_r07_All : List RD := [.tmp 0 true (some (.cons .str (.cons (.int .i64) (.cons (.int .i64) (.cons .bool (.cons (.int .i64) (.cons (.sl (.int .u64)) .nil)))))))]
theorem ok_r07_All : fnOk Try.prog Try.f24 ir_r07_All rd_r07_All = true := by kernel_rfl
def ir_field_names : IR :=
 (.seq
  (.reg ((⟨(some 0), .box [.str [], .str [], .str [], .str [], .str [], .str [], .str [], .str [], .str [], .str [], .str [], .str [], .str [], .str [], .str [], .str [], .str [], .str [], .str [], .str [], .str [], .str [], .str [], .str [], .str [], .str [], .str [], .str [], .str [], .str [], .str [], .str [], .str [], .str [], .str [], .str [], .str [], .str [], .str [], .str []], none⟩ : IOper) ::
    []))
  (.seq
   (.reg ((⟨(some 1), .buildAll 40 [(0, 1, (.c (.str [105, 110, 95, 112, 111, 114, 116]))), (1, 1, (.c (.str [105, 110, 95, 112, 104, 121, 95, 112, 111, 114, 116]))), (2, 1, (.c (.str [109, 101, 116, 97, 100, 97, 116, 97]))), (3, 1, (.c (.str [101, 116, 104, 95, 100, 115, 116]))), (4, 1, (.c (.str [101, 116, 104, 95, 115, 114, 99]))), (5, 1, (.c (.str [101, 116, 104, 95, 116, 121, 112, 101]))), (6, 1, (.c (.str [118, 108, 97, 110, 95, 118, 105, 100]))), (7, 1, (.c (.str [118, 108, 97, 110, 95, 112, 99, 112]))), (8, 1, (.c (.str [105, 112, 95, 100, 115, 99, 112]))), (9, 1, (.c (.str [105, 112, 95, 101, 99, 110]))), (10, 1, (.c (.str [105, 112, 95, 112, 114, 111, 116, 111]))), (11, 1, (.c (.str [105, 112, 118, 52, 95, 115, 114, 99]))), (12, 1, (.c (.str [105, 112, 118, 52, 95, 100, 115, 116]))), (13, 1, (.c (.str [116, 99, 112, 95, 115, 114, 99]))), (14, 1, (.c (.str [116, 99, 112, 95, 100, 115, 116]))), (15, 1, (.c (.str [117, 100, 112, 95, 115, 114, 99]))), (16, 1, (.c (.str [117, 100, 112, 95, 100, 115, 116]))), (17, 1, (.c (.str [115, 99, 116, 112, 95, 115, 114, 99]))), (18, 1, (.c (.str [115, 99, 116, 112, 95, 100, 115, 116]))), (19, 1, (.c (.str [105, 99, 109, 112, 118, 52, 95, 116, 121, 112, 101]))), (20, 1, (.c (.str [105, 99, 109, 112, 118, 52, 95, 99, 111, 100, 101]))), (21, 1, (.c (.str [97, 114, 112, 95, 111, 112]))), (22, 1, (.c (.str [97, 114, 112, 95, 115, 112, 97]))), (23, 1, (.c (.str [97, 114, 112, 95, 116, 112, 97]))), (24, 1, (.c (.str [97, 114, 112, 95, 115, 104, 97]))), (25, 1, (.c (.str [97, 114, 112, 95, 116, 104, 97]))), (26, 1, (.c (.str [105, 112, 118, 54, 95, 115, 114, 99]))), (27, 1, (.c (.str [105, 112, 118, 54, 95, 100, 115, 116]))), (28, 1, (.c (.str [105, 112, 118, 54, 95, 102, 108, 97, 98, 101, 108]))), (29, 1, (.c (.str [105, 99, 109, 112, 118, 54, 95, 116, 121, 112, 101]))), (30, 1, (.c (.str [105, 99, 109, 112, 118, 54, 95, 99, 111, 100, 101]))), (31, 1, (.c (.str [105, 112, 118, 54, 95, 110, 100, 95, 116, 97, 114, 103, 101, 116]))), (32, 1, (.c (.str [105, 112, 118, 54, 95, 110, 100, 95, 115, 108, 108]))), (33, 1, (.c (.str [105, 112, 118, 54, 95, 110, 100, 95, 116, 108, 108]))), (34, 1, (.c (.str [109, 112, 108, 115, 95, 108, 97, 98, 101, 108]))), (35, 1, (.c (.str [109, 112, 108, 115, 95, 116, 99]))), (36, 1, (.c (.str [109, 112, 108, 115, 95, 98, 111, 115]))), (37, 1, (.c (.str [112, 98, 98, 95, 105, 115, 105, 100]))), (38, 1, (.c (.str [116, 117, 110, 110, 101, 108, 95, 105, 100]))), (39, 1, (.c (.str [105, 112, 118, 54, 95, 101, 120, 116, 104, 100, 114])))], none⟩ : IOper) ::
     (⟨none, .store 40 (.t 0) (.t 1), none⟩ : IOper) ::
     []))
   .ret))
def rd_field_names : List RD := [.cell 0 (some 40) true]
theorem ok_field_names : fnOk Try.prog Try.f25 ir_field_names rd_field_names = true := by kernel_rfl
def ir_slices_Index_string_string : IR :=
 (.seq
  (.reg ((⟨(some 4), .mov (.c (.int .i64 0)), none⟩ : IOper) ::
    []))
  (.seq
   (.seq
    (.reg ((⟨(some 6), .mov (.t 0), none⟩ : IOper) ::
      (⟨(some 7), .len (.t 6), none⟩ : IOper) ::
      (⟨(some 8), .mov (.c (.int .i64 0)), none⟩ : IOper) ::
      []))
    (.block 0
     (.loop
      (.seq
       (.reg ((⟨(some 9), .bin .lss (.t 8) (.t 7), none⟩ : IOper) ::
         []))
       (.seq
        (.cond (.t 9)
         .skip
         (.exit 0))
        (.seq
         (.block 1
          (.seq
           (.reg ((⟨(some 10), .mov (.t 8), none⟩ : IOper) ::
             (⟨(some 5), .mov (.t 10), none⟩ : IOper) ::
             []))
           (.seq
            (.reg ((⟨(some 11), .mov (.t 1), none⟩ : IOper) ::
              (⟨(some 12), .mov (.t 0), none⟩ : IOper) ::
              (⟨(some 13), .mov (.t 5), none⟩ : IOper) ::
              (⟨(some 14), .indexSl 1 (.t 12) (.t 13), none⟩ : IOper) ::
              (⟨(some 15), .load none (.t 14), none⟩ : IOper) ::
              (⟨(some 16), .bin .eql (.t 11) (.t 15), none⟩ : IOper) ::
              []))
            (.cond (.t 16)
             (.seq
              (.reg ((⟨(some 17), .mov (.t 5), none⟩ : IOper) ::
                (⟨(some 4), .mov (.t 17), none⟩ : IOper) ::
                []))
              .ret)
             .skip))))
         (.reg ((⟨(some 18), .bin .add (.t 8) (.c (.int .i64 1)), none⟩ : IOper) ::
           (⟨(some 8), .mov (.t 18), none⟩ : IOper) ::
           []))))))))
   (.seq
    (.reg ((⟨(some 4), .mov (.c (.int .i64 (-1))), none⟩ : IOper) ::
      []))
    .ret)))
def rd_slices_Index_string_string : List RD := [.tmp 4 true none]
theorem ok_slices_Index_string_string : fnOk Try.prog Try.f26 ir_slices_Index_string_string rd_slices_Index_string_string = true := by kernel_rfl
end Go.Eng
