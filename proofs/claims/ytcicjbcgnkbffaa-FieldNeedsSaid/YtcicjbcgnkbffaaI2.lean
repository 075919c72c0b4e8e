/- The functions of the given program, in the small language. No condition. -/
import Derived.Test.YtcicjbcgnkbffaaProg
import Derived.Test.YtcicjbcgnkbffaaESum
import Derived.KernelRfl
namespace Go.Eng
open Go.Proofs
def ir_field_deep : IR :=
 (.seq
  (.reg ((⟨(some 2), .mov (.c (.int .i64 0)), none⟩ : IOper) ::
    (⟨(some 3), .mov (.c (.imm (.int .u64) [])), none⟩ : IOper) ::
    []))
  (.seq
   (.seq
    (.reg ((⟨(some 4), .mov (.t 0), none⟩ : IOper) ::
      []))
    (.block 0
     (.seq
      (.seq
       (.reg ((⟨(some 6), .bin .eql (.t 4) (.c (.int .i64 13)), none⟩ : IOper) ::
         (⟨(some 5), .mov (.t 6), none⟩ : IOper) ::
         []))
       (.cond (.t 5)
        .skip
        (.reg ((⟨(some 7), .bin .eql (.t 4) (.c (.int .i64 14)), none⟩ : IOper) ::
          (⟨(some 5), .mov (.t 7), none⟩ : IOper) ::
          []))))
      (.cond (.t 5)
       (.seq
        (.reg ((⟨(some 8), .sliceAll (.int .u64) 1 [(0, 1, (.c (.int .u64 6)))], none⟩ : IOper) ::
          (⟨(some 2), .mov (.c (.int .i64 10)), none⟩ : IOper) ::
          (⟨(some 3), .mov (.t 8), none⟩ : IOper) ::
          []))
        .ret)
       (.seq
        (.seq
         (.reg ((⟨(some 10), .bin .eql (.t 4) (.c (.int .i64 15)), none⟩ : IOper) ::
           (⟨(some 9), .mov (.t 10), none⟩ : IOper) ::
           []))
         (.cond (.t 9)
          .skip
          (.reg ((⟨(some 11), .bin .eql (.t 4) (.c (.int .i64 16)), none⟩ : IOper) ::
            (⟨(some 9), .mov (.t 11), none⟩ : IOper) ::
            []))))
        (.cond (.t 9)
         (.seq
          (.reg ((⟨(some 12), .sliceAll (.int .u64) 1 [(0, 1, (.c (.int .u64 17)))], none⟩ : IOper) ::
            (⟨(some 2), .mov (.c (.int .i64 10)), none⟩ : IOper) ::
            (⟨(some 3), .mov (.t 12), none⟩ : IOper) ::
            []))
          .ret)
         (.seq
          (.seq
           (.reg ((⟨(some 14), .bin .eql (.t 4) (.c (.int .i64 17)), none⟩ : IOper) ::
             (⟨(some 13), .mov (.t 14), none⟩ : IOper) ::
             []))
           (.cond (.t 13)
            .skip
            (.reg ((⟨(some 15), .bin .eql (.t 4) (.c (.int .i64 18)), none⟩ : IOper) ::
              (⟨(some 13), .mov (.t 15), none⟩ : IOper) ::
              []))))
          (.cond (.t 13)
           (.seq
            (.reg ((⟨(some 16), .sliceAll (.int .u64) 1 [(0, 1, (.c (.int .u64 132)))], none⟩ : IOper) ::
              (⟨(some 2), .mov (.c (.int .i64 10)), none⟩ : IOper) ::
              (⟨(some 3), .mov (.t 16), none⟩ : IOper) ::
              []))
            .ret)
           (.seq
            (.seq
             (.reg ((⟨(some 18), .bin .eql (.t 4) (.c (.int .i64 19)), none⟩ : IOper) ::
               (⟨(some 17), .mov (.t 18), none⟩ : IOper) ::
               []))
             (.cond (.t 17)
              .skip
              (.reg ((⟨(some 19), .bin .eql (.t 4) (.c (.int .i64 20)), none⟩ : IOper) ::
                (⟨(some 17), .mov (.t 19), none⟩ : IOper) ::
                []))))
            (.cond (.t 17)
             (.seq
              (.reg ((⟨(some 20), .sliceAll (.int .u64) 1 [(0, 1, (.c (.int .u64 1)))], none⟩ : IOper) ::
                (⟨(some 2), .mov (.c (.int .i64 10)), none⟩ : IOper) ::
                (⟨(some 3), .mov (.t 20), none⟩ : IOper) ::
                []))
              .ret)
             (.seq
              (.seq
               (.reg ((⟨(some 22), .bin .eql (.t 4) (.c (.int .i64 29)), none⟩ : IOper) ::
                 (⟨(some 21), .mov (.t 22), none⟩ : IOper) ::
                 []))
               (.cond (.t 21)
                .skip
                (.reg ((⟨(some 23), .bin .eql (.t 4) (.c (.int .i64 30)), none⟩ : IOper) ::
                  (⟨(some 21), .mov (.t 23), none⟩ : IOper) ::
                  []))))
              (.cond (.t 21)
               (.seq
                (.reg ((⟨(some 24), .sliceAll (.int .u64) 1 [(0, 1, (.c (.int .u64 58)))], none⟩ : IOper) ::
                  (⟨(some 2), .mov (.c (.int .i64 10)), none⟩ : IOper) ::
                  (⟨(some 3), .mov (.t 24), none⟩ : IOper) ::
                  []))
                .ret)
               (.seq
                (.reg ((⟨(some 26), .bin .eql (.t 4) (.c (.int .i64 31)), none⟩ : IOper) ::
                  (⟨(some 25), .mov (.t 26), none⟩ : IOper) ::
                  []))
                (.cond (.t 25)
                 (.seq
                  (.reg ((⟨(some 27), .sliceAll (.int .u64) 2 [(0, 1, (.c (.int .u64 135))), (1, 1, (.c (.int .u64 136)))], none⟩ : IOper) ::
                    (⟨(some 2), .mov (.c (.int .i64 29)), none⟩ : IOper) ::
                    (⟨(some 3), .mov (.t 27), none⟩ : IOper) ::
                    []))
                  .ret)
                 (.seq
                  (.seq
                   (.reg ((⟨(some 29), .bin .eql (.t 4) (.c (.int .i64 32)), none⟩ : IOper) ::
                     (⟨(some 28), .mov (.t 29), none⟩ : IOper) ::
                     []))
                   (.cond (.t 28)
                    .skip
                    (.reg ((⟨(some 30), .bin .eql (.t 4) (.c (.int .i64 33)), none⟩ : IOper) ::
                      (⟨(some 28), .mov (.t 30), none⟩ : IOper) ::
                      []))))
                  (.cond (.t 28)
                   (.seq
                    (.reg ((⟨(some 31), .mov (.t 0), none⟩ : IOper) ::
                      (⟨(some 32), .conv .u64 (.t 31), none⟩ : IOper) ::
                      (⟨(some 33), .bin .add (.t 32) (.c (.int .u64 103)), none⟩ : IOper) ::
                      (⟨(some 34), .sliceAll (.int .u64) 1 [(0, 1, (.t 33))], none⟩ : IOper) ::
                      (⟨(some 2), .mov (.c (.int .i64 29)), none⟩ : IOper) ::
                      (⟨(some 3), .mov (.t 34), none⟩ : IOper) ::
                      []))
                    .ret)
                   .skip))))))))))))))))
   (.seq
    (.reg ((⟨(some 2), .mov (.c (.int .i64 (-1))), none⟩ : IOper) ::
      (⟨(some 3), .mov (.c (.imm (.int .u64) [])), none⟩ : IOper) ::
      []))
    .ret)))
def rd_field_deep : List RD := [.tmp 2 true none, .tmp 3 true (some (.int .u64))]
theorem ok_field_deep : fnOk Try.prog Try.f28 ir_field_deep rd_field_deep = true := by kernel_rfl
end Go.Eng
