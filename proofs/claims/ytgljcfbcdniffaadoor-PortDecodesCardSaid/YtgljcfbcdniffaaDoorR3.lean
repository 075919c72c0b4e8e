/- Contracts of functions of the given program, told by plain Lean functions. No condition. -/
import Derived.Test.YtgljcfbcdniffaaDoorProg
import Derived.Test.YtgljcfbcdniffaaDoorESum
import Derived.KernelRfl
import Derived.Test.YtgljcfbcdniffaaDoorR2
namespace Go.Eng
open Go.Proofs
set_option linter.unusedVariables false
set_option linter.unusedSimpArgs false
set_option maxRecDepth 100000
set_option maxHeartbeats 1000000
theorem wrap_u8 (x : Int) : IntKind.u8.wrap x = x % 256 := by simp [IntKind.wrap, IntKind.signed, IntKind.bits]
def byteAt (n w j : Int) : Int := (n.fdiv (2 ^ (min (8 * (w - 1 - j)).toNat 64))) % 256
def bytesT (n w : Int) (i : Nat) : List Int := (List.range i).map fun j : Nat => byteAt n w j
def bytesN (n w : Int) : List Int := bytesT n w w.toNat
theorem bytesT_step (n w : Int) (i : Nat) : bytesT n w (i + 1) = bytesT n w i ++ [byteAt n w i] := by
  unfold bytesT; rw [List.range_succ, List.map_append]; rfl
theorem bytesT_len (n w : Int) (i : Nat) : (bytesT n w i).length = i := by unfold bytesT; simp
theorem byteAt_le (n w j : Int) : 0 ≤ byteAt n w j ∧ byteAt n w j ≤ 255 := by unfold byteAt; omega
theorem bytesN_len {n w : Int} (h : 0 ≤ w) : ((bytesN n w).length : Int) = w := by unfold bytesN; rw [bytesT_len]; omega
def ir_row_put : IR :=
 (.seq
  (.keep [0, 1, 2]
  (.reg ((⟨(some 6), .mov (.c (.imm (.int .u8) [])), none⟩ : IOper) ::
    [])))
  (.seq
   (.seq
    (.reg ((⟨(some 8), .mov (.t 2), none⟩ : IOper) ::
      (⟨(some 9), .mov (.c (.int .i64 0)), none⟩ : IOper) ::
      []))
    (.block 0
     (.loop
      (.seq
       (.keep [0, 1, 2, 8, 9]
       (.reg ((⟨(some 10), .bin .lss (.t 9) (.t 8), none⟩ : IOper) ::
         [])))
       (.seq
        (.cond (.t 10)
         .skip
         (.exit 0))
        (.seq
         (.block 1
          (.seq
           (.reg ((⟨(some 11), .mov (.t 9), none⟩ : IOper) ::
             (⟨(some 7), .mov (.t 11), none⟩ : IOper) ::
             []))
           (.keep [0, 1, 2, 7, 8, 9]
           (.reg ((⟨(some 12), .mov (.t 0), none⟩ : IOper) ::
             (⟨(some 13), .mov (.t 1), none⟩ : IOper) ::
             (⟨(some 14), .mov (.t 2), none⟩ : IOper) ::
             (⟨(some 15), .bin .sub (.t 14) (.c (.int .i64 1)), none⟩ : IOper) ::
             (⟨(some 16), .mov (.t 7), none⟩ : IOper) ::
             (⟨(some 17), .bin .sub (.t 15) (.t 16), none⟩ : IOper) ::
             (⟨(some 18), .bin .mul (.c (.int .i64 8)) (.t 17), none⟩ : IOper) ::
             (⟨(some 19), .bin .shr (.t 13) (.t 18), none⟩ : IOper) ::
             (⟨(some 20), .conv .u8 (.t 19), none⟩ : IOper) ::
             (⟨(some 21), .sliceAll (.int .u8) 1 [(0, 1, (.t 20))], none⟩ : IOper) ::
             (⟨(some 22), .append (.int .u8) 1 (.t 12) (.t 21), none⟩ : IOper) ::
             (⟨(some 0), .mov (.t 22), none⟩ : IOper) ::
             [])))))
         (.keep [0, 1, 2, 8, 9]
         (.reg ((⟨(some 23), .bin .add (.t 9) (.c (.int .i64 1)), none⟩ : IOper) ::
           (⟨(some 9), .mov (.t 23), none⟩ : IOper) ::
           [])))))))))
   (.seq
    (.keep [0]
    (.reg ((⟨(some 24), .mov (.t 0), none⟩ : IOper) ::
      (⟨(some 6), .mov (.t 24), none⟩ : IOper) ::
      [])))
    .ret)))
def rd_row_put : List RD := [.tmp 6 false none]
theorem ok_row_put : fnOk Tryd.prog Tryd.f148 ir_row_put rd_row_put = true := by kernel_rfl
def S_row_put : List AV → List Obj → Option (Prop × AV × List Obj)
  | [.own 0, .int .u64 n, .int .i64 w], [.row false (.int .u8) l] => some ((1 ≤ w ∧ w ≤ 64 ∧ l.length ≤ 100000000, .own 1, [.dead, .row false (.int .u8) (l ++ bytesN n w)]))
  | _, _ => none
theorem snd_row_put : SoundS Tryd.prog 148 (RwF S_row_put).sum := by
  refine rw_fn Tryd.func148 ok_row_put (env_nil _) fun args objs p v o e => ?_
  unfold S_row_put at e
  split at e
  · rename_i n w l
    cases e
    refine ⟨rfl, fun hw ho hp => ?_⟩
    change List Int at l
    repeat' (intro t ht; first | (cases t <;> first | (cases ht; done) | ((try simp only [Bool.not_eq_eq_eq_not, Bool.not_true, Bool.not_false, Bool.and_eq_true, Bool.and_eq_false_iff, decide_eq_true_eq, decide_eq_false_iff_not] at ht); (try simp only [Int.toNat_natCast, dflt_int] at ht))) | (refine ht ?_ ?_ <;> clear ht) | (refine ht.1 ?_ ?_ <;> clear ht) | (refine ht ?_; clear ht))
    all_goals first
      | (intro r h1 h2; clear h1; refine h2 ⟨[0, 1, 2, 8, 9], Nat, (fun i => (i : Int) ≤ w), fun i => [match i with | 0 => .own 0 | _ + 1 => .own 1, .int .u64 n, .int .i64 w, .int .i64 w, .int .i64 i], fun i => match i with | 0 => [.row false (.int .u8) l] | i + 1 => [.dead, .row false (.int .u8) (l ++ bytesT n w (i + 1))], fun i => w.toNat - i, ⟨0, by omega, rfl, rfl⟩, ?_⟩; clear h2)
    rintro (_ | i) hi
    all_goals repeat' (intro t ht; first | (cases t <;> first | (cases ht; done) | ((try simp only [Bool.not_eq_eq_eq_not, Bool.not_true, Bool.not_false, Bool.and_eq_true, Bool.and_eq_false_iff, decide_eq_true_eq, decide_eq_false_iff_not] at ht); (try simp only [Int.toNat_natCast, dflt_int] at ht))) | (refine ht ?_ ?_ <;> clear ht) | (refine ht.1 (by simp only [min_i64, max_i64, min_u64, max_u64, min_u32, max_u32, min_u16, max_u16, min_u8, max_u8]; omega) ?_; clear ht) | (refine ht.2 ?_; clear ht) | (refine ht ?_; clear ht))
    all_goals first
      | (exfalso; omega)
      | omega
      | (simp only [cast_rfl, List.length_append, List.length_cons, List.length_nil, bytesT_len]; omega)
      | (refine ⟨1, by omega, by dsimp only; omega, rfl, ?_⟩
         show [Obj.dead, Obj.row false (.int .u8) (l ++ [IntKind.u8.wrap (n.fdiv (2 ^ min (8 * (w - 1 - ((0 : Nat) : Int))).toNat 64))])] = [Obj.dead, Obj.row false (.int .u8) (l ++ bytesT n w (0 + 1))]
         rw [bytesT_step, wrap_u8]; rfl)
      | (have e : w.toNat = i + 1 := by omega
         refine ⟨rfl, ?_⟩; unfold bytesN; rw [e])
      | (refine ⟨i + 1 + 1, by omega, by dsimp only; omega, rfl, ?_⟩
         show [Obj.dead, Obj.row false (.int .u8) ((l ++ bytesT n w (i + 1)) ++ [IntKind.u8.wrap (n.fdiv (2 ^ min (8 * (w - 1 - ((i + 1 : Nat) : Int))).toNat 64))])] = [Obj.dead, Obj.row false (.int .u8) (l ++ bytesT n w (i + 1 + 1))]
         rw [bytesT_step n w (i + 1), wrap_u8, List.append_assoc]; rfl)
      | trace_state
  · cases e
end Go.Eng
