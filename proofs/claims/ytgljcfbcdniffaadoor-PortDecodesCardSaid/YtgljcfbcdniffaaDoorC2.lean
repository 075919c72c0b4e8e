/- Contracts of functions of the given program, told by plain Lean functions. No condition. -/
import Derived.Test.YtgljcfbcdniffaaDoorProg
import Derived.Test.YtgljcfbcdniffaaDoorESum
import Derived.KernelRfl
import Derived.Test.YtgljcfbcdniffaaDoorC1
namespace Go.Eng
open Go.Proofs
set_option linter.unusedVariables false
set_option linter.unusedSimpArgs false
set_option maxRecDepth 100000
set_option maxHeartbeats 1000000
def curL (w b : List Int) (p e : Int) : List Int := if e = 0 then getL w (b.drop p.toNat) else []
def curP (w b : List Int) (p e : Int) : Int := if e = 0 then (if getK w (b.drop p.toNat) = 1 then p else if getK w (b.drop p.toNat) = 2 then p else p + sizeW w) else p
def curE (w b : List Int) (p sh od e : Int) : Int := if e = 0 then (if getK w (b.drop p.toNat) = 1 then sh else if getK w (b.drop p.toNat) = 2 then od else 0) else e
def ir_cursor_Cursor_Row : IR :=
 (.seq
  (.keep [0, 1]
  (.reg ((⟨(some 4), .mov (.c (.imm (.int .u64) [])), none⟩ : IOper) ::
    [])))
  (.seq
   (.seq
    (.reg ((⟨(some 7), .mov (.t 0), none⟩ : IOper) ::
      (⟨(some 8), .call false (.f 23) [(.t 7)], none⟩ : IOper) ::
      (⟨(some 9), .bin .neq (.t 8) (.c (.int .i64 0)), none⟩ : IOper) ::
      []))
    (.cond (.t 9)
     (.seq
      (.reg ((⟨(some 4), .mov (.c (.imm (.int .u64) [])), none⟩ : IOper) ::
        []))
      .ret)
     .skip))
   (.seq
    (.keep [0, 1]
    (.regD (((⟨(some 11), .mov (.t 1), none⟩, []) : IOper × List Nat) ::
      ((⟨(some 12), .mov (.t 0), none⟩, [0]) : IOper × List Nat) ::
      ((⟨(some 13), .nilck (.t 12), none⟩, [1]) : IOper × List Nat) ::
      ((⟨(some 14), .fieldAddr 0 (.t 13), none⟩, [2]) : IOper × List Nat) ::
      ((⟨(some 15), .load none (.t 14), none⟩, [3]) : IOper × List Nat) ::
      ((⟨(some 16), .mov (.t 0), none⟩, [0, 0, 0, 0, 0]) : IOper × List Nat) ::
      ((⟨(some 17), .nilck (.t 16), none⟩, [1, 0, 0, 0, 0]) : IOper × List Nat) ::
      ((⟨(some 18), .fieldAddr 1 (.t 17), none⟩, [2, 0, 0, 0, 0]) : IOper × List Nat) ::
      ((⟨(some 19), .load none (.t 18), none⟩, [3, 0, 0, 0, 0]) : IOper × List Nat) ::
      ((⟨(some 20), .slice 1 (.t 15) (some (.t 19)) none none, none⟩, [8]) : IOper × List Nat) ::
      ((⟨(some 21), .call false (.f 114) [(.t 11), (.t 20)], none⟩, []) : IOper × List Nat) ::
      ((⟨(some 10), .mov (.t 21), none⟩, []) : IOper × List Nat) ::
      ((⟨(some 22), .extract (.t 10) 0, none⟩, []) : IOper × List Nat) ::
      ((⟨(some 23), .extract (.t 10) 1, none⟩, [0]) : IOper × List Nat) ::
      ((⟨(some 5), .mov (.t 22), none⟩, [0]) : IOper × List Nat) ::
      ((⟨(some 6), .mov (.t 23), none⟩, []) : IOper × List Nat) ::
      [])))
    (.seq
     (.seq
      (.keep [0, 1, 5, 6]
      (.reg ((⟨(some 24), .mov (.t 6), none⟩ : IOper) ::
        [])))
      (.block 0
       (.seq
        (.reg ((⟨(some 35), .bin .eql (.t 24) (.c (.int .i64 1)), none⟩ : IOper) ::
          (⟨(some 34), .mov (.t 35), none⟩ : IOper) ::
          []))
        (.cond (.t 34)
         (.keep [0, 5]
         (.reg ((⟨(some 36), .mov (.t 0), none⟩ : IOper) ::
           (⟨(some 37), .mov (.t 0), none⟩ : IOper) ::
           (⟨(some 38), .nilck (.t 37), none⟩ : IOper) ::
           (⟨(some 39), .fieldAddr 2 (.t 38), none⟩ : IOper) ::
           (⟨(some 40), .load none (.t 39), none⟩ : IOper) ::
           (⟨(some 41), .call false (.f 55) [(.t 36), (.t 40)], none⟩ : IOper) ::
           [])))
         (.seq
          (.reg ((⟨(some 43), .bin .eql (.t 24) (.c (.int .i64 2)), none⟩ : IOper) ::
            (⟨(some 42), .mov (.t 43), none⟩ : IOper) ::
            []))
          (.cond (.t 42)
           (.keep [0, 5]
           (.reg ((⟨(some 44), .mov (.t 0), none⟩ : IOper) ::
             (⟨(some 45), .mov (.t 0), none⟩ : IOper) ::
             (⟨(some 46), .nilck (.t 45), none⟩ : IOper) ::
             (⟨(some 47), .fieldAddr 3 (.t 46), none⟩ : IOper) ::
             (⟨(some 48), .load none (.t 47), none⟩ : IOper) ::
             (⟨(some 49), .call false (.f 55) [(.t 44), (.t 48)], none⟩ : IOper) ::
             [])))
           (.keep [0, 1, 5]
           (.regD (((⟨(some 25), .mov (.t 0), none⟩, []) : IOper × List Nat) ::
             ((⟨(some 26), .nilck (.t 25), none⟩, []) : IOper × List Nat) ::
             ((⟨(some 27), .fieldAddr 1 (.t 26), none⟩, []) : IOper × List Nat) ::
             ((⟨(some 28), .load none (.t 27), none⟩, []) : IOper × List Nat) ::
             ((⟨(some 29), .mov (.t 1), none⟩, [0, 0, 0, 0]) : IOper × List Nat) ::
             ((⟨(some 30), .call false (.f 115) [(.t 29)], none⟩, [1, 0, 0, 0]) : IOper × List Nat) ::
             ((⟨(some 31), .bin .add (.t 28) (.t 30), none⟩, []) : IOper × List Nat) ::
             ((⟨(some 32), .nilck (.t 25), none⟩, []) : IOper × List Nat) ::
             ((⟨(some 33), .fieldAddr 1 (.t 32), none⟩, []) : IOper × List Nat) ::
             ((⟨none, .store 1 (.t 33) (.t 31), none⟩, []) : IOper × List Nat) ::
             [])))))))))
     (.seq
      (.keep [5]
      (.reg ((⟨(some 50), .mov (.t 5), none⟩ : IOper) ::
        (⟨(some 4), .mov (.t 50), none⟩ : IOper) ::
        [])))
      .ret)))))
def rd_cursor_Cursor_Row : List RD := [.tmp 4 true (some (.int .u64))]
theorem ok_cursor_Cursor_Row : fnOk Tryd.prog Tryd.f80 ir_cursor_Cursor_Row rd_cursor_Cursor_Row = true := by kernel_rfl
def S_cursor_Cursor_Row : List AV → List Obj → Option (Prop × AV × List Obj)
  | [.ptr 0 0, .imm (.int .i64) w], [.box [.imm (.int .u8) b, .int .i64 p, .int .i64 sh, .int .i64 od, .int .i64 e, .bool true]] => some ((0 ≤ p ∧ p ≤ b.length ∧ b.length ≤ 140737488355328, .imm (.int .u64) (curL w b p e), [.box [.imm (.int .u8) b, .int .i64 (curP w b p e), .int .i64 sh, .int .i64 od, .int .i64 (curE w b p sh od e), .bool true]]))
  | _, _ => none
theorem snd_cursor_Cursor_Row : SoundS Tryd.prog 80 (RwF S_cursor_Cursor_Row).sum := by
  refine rw_fn Tryd.func80 ok_cursor_Cursor_Row (env_cons (s := RoF S_cursor_Cursor_Err) snd_cursor_Cursor_Err (env_cons (s := RoF S_row_Get) snd_row_Get (env_cons (s := RwF S_cursor_Cursor_Fail) snd_cursor_Cursor_Fail (env_cons (s := RoF S_row_Size) snd_row_Size (env_nil _))))) fun args objs p v o e => ?_
  unfold S_cursor_Cursor_Row at e
  split at e
  · rename_i w b p sh od e
    cases e
    refine ⟨rfl, fun hw ho hp => ?_⟩
    change List Int at w
    change List Int at b
    have hz := sizeW_le w
    repeat' (intro t ht; first | (cases t <;> first | (cases ht; done) | ((try simp only [Bool.not_eq_eq_eq_not, Bool.not_true, Bool.not_false, Bool.and_eq_true, Bool.and_eq_false_iff, decide_eq_true_eq, decide_eq_false_iff_not] at ht); (try simp only [Int.toNat_natCast, dflt_int] at ht))) | (refine ht ?_ ?_ <;> clear ht) | (refine ht.1 ?_ ?_ <;> clear ht) | (refine ht ?_; clear ht))
    all_goals first
      | exact True.intro
      | ((try simp only [Int.toNat_natCast, dflt_int, decide_eq_true_eq, decide_eq_false_iff_not, Bool.not_eq_eq_eq_not, Bool.not_true, Bool.not_false, Bool.and_eq_true, Bool.and_eq_false_iff, min_i64, max_i64, min_u64, max_u64, min_u32, max_u32, min_u16, max_u16, min_u8, max_u8] at *); omega)
      | (unfold curL curP curE; simp_all [failE]; done)
      | trace_state
  · cases e
end Go.Eng
