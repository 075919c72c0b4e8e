/- Contracts of functions of the given program, told by plain Lean functions. No condition. -/
import Derived.Test.YtgljcfbcdniffaaDoorProg
import Derived.Test.YtgljcfbcdniffaaDoorESum
import Derived.KernelRfl
import Derived.Test.YtgljcfbcdniffaaDoorR6
namespace Go.Eng
open Go.Proofs
set_option linter.unusedVariables false
set_option linter.unusedSimpArgs false
set_option maxRecDepth 100000
set_option maxHeartbeats 1000000
def ir_bytes_Clone : IR :=
 (.seq
  (.keep [0]
  (.reg ((⟨(some 2), .mov (.c (.imm (.int .u8) [])), none⟩ : IOper) ::
    [])))
  (.seq
   (.seq
    (.reg ((⟨(some 3), .mov (.t 0), none⟩ : IOper) ::
      (⟨(some 4), .isnil false (.t 3), none⟩ : IOper) ::
      []))
    (.cond (.t 4)
     (.seq
      (.reg ((⟨(some 2), .mov (.c (.imm (.int .u8) [])), none⟩ : IOper) ::
        []))
      .ret)
     .skip))
   (.seq
    (.reg ((⟨(some 5), .slice0 (.int .u8), none⟩ : IOper) ::
      (⟨(some 6), .mov (.t 0), none⟩ : IOper) ::
      (⟨(some 7), .append (.int .u8) 1 (.t 5) (.t 6), none⟩ : IOper) ::
      (⟨(some 2), .mov (.t 7), none⟩ : IOper) ::
      []))
    .ret)))
def rd_bytes_Clone : List RD := [.tmp 2 true (some (.int .u8))]
theorem ok_bytes_Clone : fnOk Tryd.prog Tryd.f52 ir_bytes_Clone rd_bytes_Clone = true := by kernel_rfl
def S_bytes_Clone : List AV → List Obj → Option (Prop × AV)
  | [.imm (.int .u8) b], [] => some ((b.length ≤ 140737488355328, .imm (.int .u8) b))
  | _, _ => none
theorem snd_bytes_Clone : SoundS Tryd.prog 52 (RoF S_bytes_Clone).sum := by
  refine ro_fn Tryd.func52 ok_bytes_Clone (env_nil _) fun args objs p v e => ?_
  unfold S_bytes_Clone at e
  split at e
  · rename_i b
    cases e
    refine ⟨rfl, fun hw ho hp => ?_⟩
    change List Int at b
    repeat' (intro t ht; first | (cases t <;> first | (cases ht; done) | ((try simp only [Bool.not_eq_eq_eq_not, Bool.not_true, Bool.not_false, Bool.and_eq_true, Bool.and_eq_false_iff, decide_eq_true_eq, decide_eq_false_iff_not] at ht); (try simp only [Int.toNat_natCast, dflt_int] at ht))) | (refine ht ?_ ?_ <;> clear ht) | (refine ht.1 ?_ ?_ <;> clear ht) | (refine ht ?_; clear ht))
    all_goals first
      | (simp only [cast_rfl, List.length_nil, Nat.zero_add, Nat.mul_one]; omega)
      | exact ⟨rfl, rfl⟩
      | (have e : b = [] := by simp_all
         refine ⟨?_, rfl⟩; rw [e])
      | trace_state
  · cases e
def ir_cursor_Cursor_none : IR :=
 (.seq
  (.keep [0]
  (.reg ((⟨(some 2), .mov (.c (.kb false)), none⟩ : IOper) ::
    [])))
  (.seq
   (.keep [0]
   (.reg ((⟨(some 3), .mov (.t 0), none⟩ : IOper) ::
     (⟨(some 4), .eqp false (.t 3) (.c (.nilp)), none⟩ : IOper) ::
     (⟨(some 5), .mov (.t 4), none⟩ : IOper) ::
     (⟨(some 6), .mov (.t 0), (some (5, false))⟩ : IOper) ::
     (⟨(some 7), .nilck (.t 6), (some (5, false))⟩ : IOper) ::
     (⟨(some 8), .fieldAddr 5 (.t 7), (some (5, false))⟩ : IOper) ::
     (⟨(some 9), .load none (.t 8), (some (5, false))⟩ : IOper) ::
     (⟨(some 10), .un .not (.t 9), (some (5, false))⟩ : IOper) ::
     (⟨(some 11), .pick (.t 5) (.c (.kb true)) (.t 10), none⟩ : IOper) ::
     (⟨(some 2), .mov (.t 11), none⟩ : IOper) ::
     [])))
   .ret))
def rd_cursor_Cursor_none : List RD := [.tmp 2 true none]
theorem ok_cursor_Cursor_none : fnOk Tryd.prog Tryd.f56 ir_cursor_Cursor_none rd_cursor_Cursor_none = true := by kernel_rfl
def S_cursor_Cursor_none : List AV → List Obj → Option (Prop × AV)
  | [.ptr 0 0], [.box [.imm (.int .u8) b, .int .i64 p, .int .i64 sh, .int .i64 od, .int .i64 e, .bool true]] => some ((True, .bool false))
  | _, _ => none
theorem snd_cursor_Cursor_none : SoundS Tryd.prog 56 (RoF S_cursor_Cursor_none).sum := by
  refine ro_fn Tryd.func56 ok_cursor_Cursor_none (env_nil _) fun args objs p v e => ?_
  unfold S_cursor_Cursor_none at e
  split at e
  · rename_i b p sh od e
    cases e
    refine ⟨rfl, fun hw ho hp => ?_⟩
    change List Int at b
    repeat' (intro t ht; first | (cases t <;> first | (cases ht; done) | ((try simp only [Bool.not_eq_eq_eq_not, Bool.not_true, Bool.not_false, Bool.and_eq_true, Bool.and_eq_false_iff, decide_eq_true_eq, decide_eq_false_iff_not] at ht); (try simp only [Int.toNat_natCast, dflt_int] at ht))) | (refine ht ?_ ?_ <;> clear ht) | (refine ht.1 ?_ ?_ <;> clear ht) | (refine ht ?_; clear ht))
    all_goals exact ⟨rfl, rfl⟩
  · cases e
def ir_cursor_New : IR :=
 (.seq
  (.keep [0, 1, 2]
  (.reg ((⟨(some 6), .mov (.c (.nilp)), none⟩ : IOper) ::
    [])))
  (.seq
   (.keep [0, 1, 2]
   (.reg ((⟨(some 7), .mov (.t 0), none⟩ : IOper) ::
     (⟨(some 8), .call false (.f 52) [(.t 7)], none⟩ : IOper) ::
     (⟨(some 9), .mov (.t 1), none⟩ : IOper) ::
     (⟨(some 10), .mov (.t 2), none⟩ : IOper) ::
     (⟨(some 11), .build [.imm (.int .u8) [], .int .i64 0, .int .i64 0, .int .i64 0, .int .i64 0, .kb false] [(0, 1, (.t 8)), (2, 1, (.t 9)), (3, 1, (.t 10)), (5, 1, (.c (.kb true)))], none⟩ : IOper) ::
     (⟨(some 12), .boxv (.t 11), none⟩ : IOper) ::
     (⟨(some 6), .mov (.t 12), none⟩ : IOper) ::
     [])))
   .ret))
def rd_cursor_New : List RD := [.tmp 6 true none]
theorem ok_cursor_New : fnOk Tryd.prog Tryd.f20 ir_cursor_New rd_cursor_New = true := by kernel_rfl
def S_cursor_New : List AV → List Obj → Option (Prop × AV × List Obj)
  | [.imm (.int .u8) b, .int .i64 sh, .int .i64 od], [] => some ((b.length ≤ 140737488355328, .ptr 0 0, [.box [.imm (.int .u8) b, .int .i64 0, .int .i64 sh, .int .i64 od, .int .i64 0, .bool true]]))
  | _, _ => none
theorem snd_cursor_New : SoundS Tryd.prog 20 (RwF S_cursor_New).sum := by
  refine rw_fn Tryd.func20 ok_cursor_New (env_cons (s := RoF S_bytes_Clone) snd_bytes_Clone (env_nil _)) fun args objs p v o e => ?_
  unfold S_cursor_New at e
  split at e
  · rename_i b sh od
    cases e
    refine ⟨rfl, fun hw ho hp => ?_⟩
    change List Int at b
    repeat' (intro t ht; first | (cases t <;> first | (cases ht; done) | ((try simp only [Bool.not_eq_eq_eq_not, Bool.not_true, Bool.not_false, Bool.and_eq_true, Bool.and_eq_false_iff, decide_eq_true_eq, decide_eq_false_iff_not] at ht); (try simp only [Int.toNat_natCast, dflt_int] at ht))) | (refine ht ?_ ?_ <;> clear ht) | (refine ht.1 ?_ ?_ <;> clear ht) | (refine ht ?_; clear ht))
    all_goals first
      | exact hp
      | exact ⟨rfl, rfl⟩
      | trace_state
  · cases e
def failE (e x : Int) : Int := if e = 0 then x else e
def ir_cursor_Cursor_Fail : IR :=
 (.seq
  (.keep [0, 1]
  (.reg ((⟨(some 4), .mov (.t 0), none⟩ : IOper) ::
    (⟨(some 5), .call false (.f 56) [(.t 4)], none⟩ : IOper) ::
    (⟨(some 6), .un .not (.t 5), none⟩ : IOper) ::
    (⟨(some 7), .mov (.t 6), none⟩ : IOper) ::
    (⟨(some 8), .mov (.t 0), (some (7, true))⟩ : IOper) ::
    (⟨(some 9), .nilck (.t 8), (some (7, true))⟩ : IOper) ::
    (⟨(some 10), .fieldAddr 4 (.t 9), (some (7, true))⟩ : IOper) ::
    (⟨(some 11), .load none (.t 10), (some (7, true))⟩ : IOper) ::
    (⟨(some 12), .bin .eql (.t 11) (.c (.int .i64 0)), (some (7, true))⟩ : IOper) ::
    (⟨(some 13), .pick (.t 7) (.t 12) (.c (.kb false)), none⟩ : IOper) ::
    [])))
  (.cond (.t 13)
   (.keep [0, 1]
   (.reg ((⟨(some 14), .mov (.t 0), none⟩ : IOper) ::
     (⟨(some 15), .mov (.t 1), none⟩ : IOper) ::
     (⟨(some 16), .nilck (.t 14), none⟩ : IOper) ::
     (⟨(some 17), .fieldAddr 4 (.t 16), none⟩ : IOper) ::
     (⟨none, .store 1 (.t 17) (.t 15), none⟩ : IOper) ::
     [])))
   .skip))
def rd_cursor_Cursor_Fail : List RD := []
theorem ok_cursor_Cursor_Fail : fnOk Tryd.prog Tryd.f55 ir_cursor_Cursor_Fail rd_cursor_Cursor_Fail = true := by kernel_rfl
def S_cursor_Cursor_Fail : List AV → List Obj → Option (Prop × AV × List Obj)
  | [.ptr 0 0, .int .i64 x], [.box [.imm (.int .u8) b, .int .i64 p, .int .i64 sh, .int .i64 od, .int .i64 e, .bool true]] => some ((True, .tup [], [.box [.imm (.int .u8) b, .int .i64 p, .int .i64 sh, .int .i64 od, .int .i64 (failE e x), .bool true]]))
  | _, _ => none
theorem snd_cursor_Cursor_Fail : SoundS Tryd.prog 55 (RwF S_cursor_Cursor_Fail).sum := by
  refine rw_fn Tryd.func55 ok_cursor_Cursor_Fail (env_cons (s := RoF S_cursor_Cursor_none) snd_cursor_Cursor_none (env_nil _)) fun args objs p v o e => ?_
  unfold S_cursor_Cursor_Fail at e
  split at e
  · rename_i x b p sh od e
    cases e
    refine ⟨rfl, fun hw ho hp => ?_⟩
    change List Int at b
    repeat' (intro t ht; first | (cases t <;> first | (cases ht; done) | ((try simp only [Bool.not_eq_eq_eq_not, Bool.not_true, Bool.not_false, Bool.and_eq_true, Bool.and_eq_false_iff, decide_eq_true_eq, decide_eq_false_iff_not] at ht); (try simp only [Int.toNat_natCast, dflt_int] at ht))) | (refine ht ?_ ?_ <;> clear ht) | (refine ht.1 ?_ ?_ <;> clear ht) | (refine ht ?_; clear ht))
    all_goals first
      | exact True.intro
      | (unfold failE; simp_all; done)
      | trace_state
  · cases e
def ir_cursor_Cursor_Err : IR :=
 (.seq
  (.keep [0]
  (.reg ((⟨(some 2), .mov (.c (.int .i64 0)), none⟩ : IOper) ::
    [])))
  (.seq
   (.seq
    (.reg ((⟨(some 3), .mov (.t 0), none⟩ : IOper) ::
      (⟨(some 4), .call false (.f 56) [(.t 3)], none⟩ : IOper) ::
      []))
    (.cond (.t 4)
     (.seq
      (.reg ((⟨(some 2), .mov (.c (.int .i64 10001)), none⟩ : IOper) ::
        []))
      .ret)
     .skip))
   (.seq
    (.keep [0]
    (.reg ((⟨(some 5), .mov (.t 0), none⟩ : IOper) ::
      (⟨(some 6), .nilck (.t 5), none⟩ : IOper) ::
      (⟨(some 7), .fieldAddr 4 (.t 6), none⟩ : IOper) ::
      (⟨(some 8), .load none (.t 7), none⟩ : IOper) ::
      (⟨(some 2), .mov (.t 8), none⟩ : IOper) ::
      [])))
    .ret)))
def rd_cursor_Cursor_Err : List RD := [.tmp 2 true none]
theorem ok_cursor_Cursor_Err : fnOk Tryd.prog Tryd.f23 ir_cursor_Cursor_Err rd_cursor_Cursor_Err = true := by kernel_rfl
def S_cursor_Cursor_Err : List AV → List Obj → Option (Prop × AV)
  | [.ptr 0 0], [.box [.imm (.int .u8) b, .int .i64 p, .int .i64 sh, .int .i64 od, .int .i64 e, .bool true]] => some ((True, .int .i64 e))
  | _, _ => none
theorem snd_cursor_Cursor_Err : SoundS Tryd.prog 23 (RoF S_cursor_Cursor_Err).sum := by
  refine ro_fn Tryd.func23 ok_cursor_Cursor_Err (env_cons (s := RoF S_cursor_Cursor_none) snd_cursor_Cursor_none (env_nil _)) fun args objs p v e => ?_
  unfold S_cursor_Cursor_Err at e
  split at e
  · rename_i b p sh od e
    cases e
    refine ⟨rfl, fun hw ho hp => ?_⟩
    change List Int at b
    repeat' (intro t ht; first | (cases t <;> first | (cases ht; done) | ((try simp only [Bool.not_eq_eq_eq_not, Bool.not_true, Bool.not_false, Bool.and_eq_true, Bool.and_eq_false_iff, decide_eq_true_eq, decide_eq_false_iff_not] at ht); (try simp only [Int.toNat_natCast, dflt_int] at ht))) | (refine ht ?_ ?_ <;> clear ht) | (refine ht.1 ?_ ?_ <;> clear ht) | (refine ht ?_; clear ht))
    all_goals first
      | exact True.intro
      | exact ⟨rfl, rfl⟩
      | trace_state
  · cases e
def ir_cursor_Cursor_Left : IR :=
 (.seq
  (.keep [0]
  (.reg ((⟨(some 2), .mov (.c (.int .i64 0)), none⟩ : IOper) ::
    [])))
  (.seq
   (.seq
    (.reg ((⟨(some 3), .mov (.t 0), none⟩ : IOper) ::
      (⟨(some 4), .call false (.f 56) [(.t 3)], none⟩ : IOper) ::
      []))
    (.cond (.t 4)
     (.seq
      (.reg ((⟨(some 2), .mov (.c (.int .i64 0)), none⟩ : IOper) ::
        []))
      .ret)
     .skip))
   (.seq
    (.keep [0]
    (.regD (((⟨(some 5), .mov (.t 0), none⟩, []) : IOper × List Nat) ::
      ((⟨(some 6), .nilck (.t 5), none⟩, []) : IOper × List Nat) ::
      ((⟨(some 7), .fieldAddr 0 (.t 6), none⟩, []) : IOper × List Nat) ::
      ((⟨(some 8), .load none (.t 7), none⟩, []) : IOper × List Nat) ::
      ((⟨(some 9), .len (.t 8), none⟩, []) : IOper × List Nat) ::
      ((⟨(some 10), .mov (.t 0), none⟩, [0, 0, 0, 0, 0]) : IOper × List Nat) ::
      ((⟨(some 11), .nilck (.t 10), none⟩, [1, 0, 0, 0, 0]) : IOper × List Nat) ::
      ((⟨(some 12), .fieldAddr 1 (.t 11), none⟩, [2, 0, 0, 0, 0]) : IOper × List Nat) ::
      ((⟨(some 13), .load none (.t 12), none⟩, [3, 0, 0, 0, 0]) : IOper × List Nat) ::
      ((⟨(some 14), .bin .sub (.t 9) (.t 13), none⟩, []) : IOper × List Nat) ::
      ((⟨(some 2), .mov (.t 14), none⟩, []) : IOper × List Nat) ::
      [])))
    .ret)))
def rd_cursor_Cursor_Left : List RD := [.tmp 2 true none]
theorem ok_cursor_Cursor_Left : fnOk Tryd.prog Tryd.f24 ir_cursor_Cursor_Left rd_cursor_Cursor_Left = true := by kernel_rfl
def S_cursor_Cursor_Left : List AV → List Obj → Option (Prop × AV)
  | [.ptr 0 0], [.box [.imm (.int .u8) b, .int .i64 p, .int .i64 sh, .int .i64 od, .int .i64 e, .bool true]] => some ((0 ≤ p ∧ p ≤ b.length, .int .i64 (b.length - p)))
  | _, _ => none
theorem snd_cursor_Cursor_Left : SoundS Tryd.prog 24 (RoF S_cursor_Cursor_Left).sum := by
  refine ro_fn Tryd.func24 ok_cursor_Cursor_Left (env_cons (s := RoF S_cursor_Cursor_none) snd_cursor_Cursor_none (env_nil _)) fun args objs p v e => ?_
  unfold S_cursor_Cursor_Left at e
  split at e
  · rename_i b p sh od e
    cases e
    refine ⟨rfl, fun hw ho hp => ?_⟩
    change List Int at b
    have hb : b.length ≤ maxLen := (ho _ (List.mem_cons_self ..) (.imm (.int .u8) b) (by simp)).2
    unfold maxLen at hb
    repeat' (intro t ht; first | (cases t <;> first | (cases ht; done) | ((try simp only [Bool.not_eq_eq_eq_not, Bool.not_true, Bool.not_false, Bool.and_eq_true, Bool.and_eq_false_iff, decide_eq_true_eq, decide_eq_false_iff_not] at ht); (try simp only [Int.toNat_natCast, dflt_int] at ht))) | (refine ht ?_ ?_ <;> clear ht) | (refine ht.1 ?_ ?_ <;> clear ht) | (refine ht ?_; clear ht))
    all_goals first
      | exact True.intro
      | ((try simp only [Int.toNat_natCast, dflt_int, decide_eq_true_eq, decide_eq_false_iff_not, Bool.not_eq_eq_eq_not, Bool.not_true, Bool.not_false, Bool.and_eq_true, Bool.and_eq_false_iff, min_i64, max_i64, min_u64, max_u64, min_u32, max_u32, min_u16, max_u16, min_u8, max_u8] at *); omega)
      | exact ⟨rfl, rfl⟩
      | trace_state
  · cases e
def ir_cursor_Cursor_At : IR :=
 (.seq
  (.keep [0]
  (.reg ((⟨(some 2), .mov (.c (.int .i64 0)), none⟩ : IOper) ::
    [])))
  (.seq
   (.seq
    (.reg ((⟨(some 3), .mov (.t 0), none⟩ : IOper) ::
      (⟨(some 4), .call false (.f 56) [(.t 3)], none⟩ : IOper) ::
      []))
    (.cond (.t 4)
     (.seq
      (.reg ((⟨(some 2), .mov (.c (.int .i64 0)), none⟩ : IOper) ::
        []))
      .ret)
     .skip))
   (.seq
    (.keep [0]
    (.reg ((⟨(some 5), .mov (.t 0), none⟩ : IOper) ::
      (⟨(some 6), .nilck (.t 5), none⟩ : IOper) ::
      (⟨(some 7), .fieldAddr 1 (.t 6), none⟩ : IOper) ::
      (⟨(some 8), .load none (.t 7), none⟩ : IOper) ::
      (⟨(some 2), .mov (.t 8), none⟩ : IOper) ::
      [])))
    .ret)))
def rd_cursor_Cursor_At : List RD := [.tmp 2 true none]
theorem ok_cursor_Cursor_At : fnOk Tryd.prog Tryd.f85 ir_cursor_Cursor_At rd_cursor_Cursor_At = true := by kernel_rfl
def S_cursor_Cursor_At : List AV → List Obj → Option (Prop × AV)
  | [.ptr 0 0], [.box [.imm (.int .u8) b, .int .i64 p, .int .i64 sh, .int .i64 od, .int .i64 e, .bool true]] => some ((True, .int .i64 p))
  | _, _ => none
theorem snd_cursor_Cursor_At : SoundS Tryd.prog 85 (RoF S_cursor_Cursor_At).sum := by
  refine ro_fn Tryd.func85 ok_cursor_Cursor_At (env_cons (s := RoF S_cursor_Cursor_none) snd_cursor_Cursor_none (env_nil _)) fun args objs p v e => ?_
  unfold S_cursor_Cursor_At at e
  split at e
  · rename_i b p sh od e
    cases e
    refine ⟨rfl, fun hw ho hp => ?_⟩
    change List Int at b
    repeat' (intro t ht; first | (cases t <;> first | (cases ht; done) | ((try simp only [Bool.not_eq_eq_eq_not, Bool.not_true, Bool.not_false, Bool.and_eq_true, Bool.and_eq_false_iff, decide_eq_true_eq, decide_eq_false_iff_not] at ht); (try simp only [Int.toNat_natCast, dflt_int] at ht))) | (refine ht ?_ ?_ <;> clear ht) | (refine ht.1 ?_ ?_ <;> clear ht) | (refine ht ?_; clear ht))
    all_goals first
      | exact True.intro
      | exact ⟨rfl, rfl⟩
      | trace_state
  · cases e
end Go.Eng
