/- Contracts of functions of the given program, told by plain Lean functions. No condition. -/
import Derived.Test.YtgljcfbcdniffaaDoorProg
import Derived.Test.YtgljcfbcdniffaaDoorESum
import Derived.KernelRfl
import Derived.Test.YtgljcfbcdniffaaDoorR5
namespace Go.Eng
open Go.Proofs
set_option linter.unusedVariables false
set_option linter.unusedSimpArgs false
set_option maxRecDepth 100000
set_option maxHeartbeats 1000000
theorem tkStep {α : Type} {a b : List α} {d : α} {i : Nat} (h : a.take i = b.take i) (hi : i < a.length) (hl : a.length = b.length) (e : a.getD i d = b.getD i d) : a.take (i + 1) = b.take (i + 1) := by
  have hb : i < b.length := by omega
  rw [List.getD_eq_getElem?_getD, List.getD_eq_getElem?_getD, List.getElem?_eq_getElem hi, List.getElem?_eq_getElem hb] at e
  rw [List.take_succ_eq_append_getElem hi, List.take_succ_eq_append_getElem hb, h, show a[i] = b[i] from e]
theorem tkAll {α : Type} {a b : List α} {i : Nat} (h : a.take i = b.take i) (hi : a.length ≤ i) (hl : a.length = b.length) : a = b := by
  rwa [List.take_of_length_le hi, List.take_of_length_le (by omega)] at h
theorem tkNe {α : Type} {a b : List α} {d : α} {i : Nat} (e : ¬ a.getD i d = b.getD i d) : a ≠ b := fun h => e (by rw [h])
def ir_r01_Bytes : IR :=
 (.seq
  (.keep [0, 1]
  (.reg ((⟨(some 4), .mov (.c (.kb false)), none⟩ : IOper) ::
    [])))
  (.seq
   (.seq
    (.keep [0, 1]
    (.reg ((⟨(some 6), .mov (.t 0), none⟩ : IOper) ::
      (⟨(some 7), .len (.t 6), none⟩ : IOper) ::
      (⟨(some 8), .mov (.t 1), none⟩ : IOper) ::
      (⟨(some 9), .len (.t 8), none⟩ : IOper) ::
      (⟨(some 10), .bin .neq (.t 7) (.t 9), none⟩ : IOper) ::
      [])))
    (.cond (.t 10)
     (.seq
      (.reg ((⟨(some 4), .mov (.c (.kb false)), none⟩ : IOper) ::
        []))
      .ret)
     .skip))
   (.seq
    (.seq
     (.keep [0, 1]
     (.reg ((⟨(some 5), .mov (.c (.int .i64 0)), none⟩ : IOper) ::
       [])))
     (.block 0
      (.loop
       (.seq
        (.seq
         (.keep [0, 1, 5]
         (.reg ((⟨(some 11), .mov (.t 5), none⟩ : IOper) ::
           (⟨(some 12), .mov (.t 0), none⟩ : IOper) ::
           (⟨(some 13), .len (.t 12), none⟩ : IOper) ::
           (⟨(some 14), .bin .lss (.t 11) (.t 13), none⟩ : IOper) ::
           [])))
         (.cond (.t 14)
          .skip
          (.exit 0)))
        (.seq
         (.block 1
          (.seq
           (.keep [0, 1, 5]
           (.regD (((⟨(some 17), .mov (.t 0), none⟩, []) : IOper × List Nat) ::
             ((⟨(some 18), .mov (.t 5), none⟩, [0]) : IOper × List Nat) ::
             ((⟨(some 19), .indexSl 1 (.t 17) (.t 18), none⟩, []) : IOper × List Nat) ::
             ((⟨(some 20), .load none (.t 19), none⟩, []) : IOper × List Nat) ::
             ((⟨(some 21), .mov (.t 1), none⟩, [0, 0, 0, 0]) : IOper × List Nat) ::
             ((⟨(some 22), .mov (.t 5), none⟩, [0, 0, 0, 0, 0]) : IOper × List Nat) ::
             ((⟨(some 23), .indexSl 1 (.t 21) (.t 22), none⟩, [2, 0, 0, 0]) : IOper × List Nat) ::
             ((⟨(some 24), .load none (.t 23), none⟩, [3, 0, 0, 0]) : IOper × List Nat) ::
             ((⟨(some 25), .bin .neq (.t 20) (.t 24), none⟩, []) : IOper × List Nat) ::
             [])))
           (.cond (.t 25)
            (.seq
             (.keep []
             (.reg ((⟨(some 4), .mov (.c (.kb false)), none⟩ : IOper) ::
               [])))
             .ret)
            .skip)))
         (.keep [0, 1, 5]
         (.reg ((⟨(some 15), .mov (.t 5), none⟩ : IOper) ::
           (⟨(some 16), .bin .add (.t 15) (.c (.int .i64 1)), none⟩ : IOper) ::
           (⟨(some 5), .mov (.t 16), none⟩ : IOper) ::
           []))))))))
    (.seq
     (.keep []
     (.reg ((⟨(some 4), .mov (.c (.kb true)), none⟩ : IOper) ::
       [])))
     .ret))))
def rd_r01_Bytes : List RD := [.tmp 4 true none]
theorem ok_r01_Bytes : fnOk Tryd.prog Tryd.f35 ir_r01_Bytes rd_r01_Bytes = true := by kernel_rfl
def S_r01_Bytes : List AV → List Obj → Option (Prop × AV)
  | [.imm (.int .u8) a, .imm (.int .u8) b], [] => some ((True, .bool (decide (a = b))))
  | _, _ => none
theorem snd_r01_Bytes : SoundS Tryd.prog 35 (RoF S_r01_Bytes).sum := by
  refine ro_fn Tryd.func35 ok_r01_Bytes (env_nil _) fun args objs p v e => ?_
  unfold S_r01_Bytes at e
  split at e
  · rename_i a b
    cases e
    refine ⟨rfl, fun hw ho hp => ?_⟩
    change List Int at a
    change List Int at b
    have hl : a.length ≤ maxLen := (hw (.imm (.int .u8) a) (by simp)).2
    unfold maxLen at hl
    repeat' (intro t ht; first | (cases t <;> first | (cases ht; done) | ((try simp only [Bool.not_eq_eq_eq_not, Bool.not_true, Bool.not_false, Bool.and_eq_true, Bool.and_eq_false_iff, decide_eq_true_eq, decide_eq_false_iff_not] at ht); (try simp only [Int.toNat_natCast, dflt_int] at ht))) | (refine ht ?_ ?_ <;> clear ht) | (refine ht.1 ?_ ?_ <;> clear ht) | (refine ht ?_; clear ht))
    all_goals first
      | (have hne : a ≠ b := fun h => (by assumption : ¬ (a.length : Int) = b.length) (by rw [h])
         refine ⟨?_, rfl⟩; rw [decide_eq_false hne]; done)
      | (intro r h1 h2; clear h1; refine h2 ⟨[0, 1, 5], Nat, (fun i => i ≤ a.length ∧ a.take i = b.take i), fun i => [.imm (.int .u8) a, .imm (.int .u8) b, .int .i64 i], fun _ => [], fun i => a.length - i, ⟨0, ⟨Nat.zero_le _, rfl⟩, rfl, rfl⟩, ?_⟩; clear h2)
    rintro i ⟨hi, he⟩
    have hl2 : a.length = b.length := by omega
    repeat' (intro t ht; first | (cases t <;> first | (cases ht; done) | ((try simp only [Bool.not_eq_eq_eq_not, Bool.not_true, Bool.not_false, Bool.and_eq_true, Bool.and_eq_false_iff, decide_eq_true_eq, decide_eq_false_iff_not] at ht); (try simp only [Int.toNat_natCast, dflt_int] at ht))) | (refine ht ?_ ?_ <;> clear ht) | (refine ht.1 ?_ ?_ <;> clear ht) | (refine ht ?_; clear ht))
    all_goals first
      | ((try simp only [Int.toNat_natCast, dflt_int, decide_eq_true_eq, decide_eq_false_iff_not, Bool.not_eq_eq_eq_not, Bool.not_true, Bool.not_false, Bool.and_eq_true, Bool.and_eq_false_iff, min_i64, max_i64, min_u64, max_u64, min_u32, max_u32, min_u16, max_u16, min_u8, max_u8] at *); omega)
      | (have hge : a.length ≤ i := by omega
         have e := tkAll he hge hl2
         refine ⟨?_, rfl⟩; rw [decide_eq_true e]; done)
      | (have hne : a ≠ b := tkNe (d := 0) (i := i) (by assumption)
         refine ⟨?_, rfl⟩; rw [decide_eq_false hne]; done)
      | (have hlt : i < a.length := by omega
         exact ⟨i + 1, ⟨hlt, tkStep he hlt hl2 (d := 0) (by assumption)⟩, by (try simp only [Int.toNat_natCast, dflt_int, decide_eq_true_eq, decide_eq_false_iff_not, Bool.not_eq_eq_eq_not, Bool.not_true, Bool.not_false, Bool.and_eq_true, Bool.and_eq_false_iff, min_i64, max_i64, min_u64, max_u64, min_u32, max_u32, min_u16, max_u16, min_u8, max_u8] at *); omega, rfl, rfl⟩)
      | trace_state
  · cases e
def ir_r01_Value : IR :=
 (.seq
  (.keep [0]
  (.reg ((⟨(some 2), .mov (.c (.int .u64 0)), none⟩ : IOper) ::
    [])))
  (.seq
   (.reg ((⟨(some 3), .mov (.c (.int .u64 0)), none⟩ : IOper) ::
     []))
   (.seq
    (.seq
     (.reg ((⟨(some 4), .mov (.c (.int .i64 0)), none⟩ : IOper) ::
       []))
     (.block 0
      (.loop
       (.seq
        (.seq
         (.keep [0, 3, 4]
         (.reg ((⟨(some 5), .mov (.t 4), none⟩ : IOper) ::
           (⟨(some 6), .mov (.t 0), none⟩ : IOper) ::
           (⟨(some 7), .len (.t 6), none⟩ : IOper) ::
           (⟨(some 8), .bin .lss (.t 5) (.t 7), none⟩ : IOper) ::
           [])))
         (.cond (.t 8)
          .skip
          (.exit 0)))
        (.seq
         (.block 1
          (.keep [0, 3, 4]
          (.reg ((⟨(some 11), .mov (.t 3), none⟩ : IOper) ::
            (⟨(some 12), .bin .mul (.t 11) (.c (.int .u64 256)), none⟩ : IOper) ::
            (⟨(some 13), .mov (.t 0), none⟩ : IOper) ::
            (⟨(some 14), .mov (.t 4), none⟩ : IOper) ::
            (⟨(some 15), .indexSl 1 (.t 13) (.t 14), none⟩ : IOper) ::
            (⟨(some 16), .load none (.t 15), none⟩ : IOper) ::
            (⟨(some 17), .conv .u64 (.t 16), none⟩ : IOper) ::
            (⟨(some 18), .bin .add (.t 12) (.t 17), none⟩ : IOper) ::
            (⟨(some 3), .mov (.t 18), none⟩ : IOper) ::
            []))))
         (.keep [0, 3, 4]
         (.reg ((⟨(some 9), .mov (.t 4), none⟩ : IOper) ::
           (⟨(some 10), .bin .add (.t 9) (.c (.int .i64 1)), none⟩ : IOper) ::
           (⟨(some 4), .mov (.t 10), none⟩ : IOper) ::
           []))))))))
    (.seq
     (.keep [3]
     (.reg ((⟨(some 19), .mov (.t 3), none⟩ : IOper) ::
       (⟨(some 2), .mov (.t 19), none⟩ : IOper) ::
       [])))
     .ret))))
def rd_r01_Value : List RD := [.tmp 2 true none]
theorem ok_r01_Value : fnOk Tryd.prog Tryd.f91 ir_r01_Value rd_r01_Value = true := by kernel_rfl
def S_r01_Value : List AV → List Obj → Option (Prop × AV)
  | [.imm (.int .u8) b], [] => some ((b.length ≤ 8, .int .u64 (numL b)))
  | _, _ => none
theorem snd_r01_Value : SoundS Tryd.prog 91 (RoF S_r01_Value).sum := by
  refine ro_fn Tryd.func91 ok_r01_Value (env_nil _) fun args objs p v e => ?_
  unfold S_r01_Value at e
  split at e
  · rename_i b
    cases e
    refine ⟨rfl, fun hw ho hp => ?_⟩
    change List Int at b
    have hb : ∀ x ∈ (b : List Int), (0 : Int) ≤ x ∧ x ≤ 255 := fun x hx => (hw (.imm (.int .u8) b) (by simp)).1 x hx
    repeat' (intro t ht; first | (cases t <;> first | (cases ht; done) | ((try simp only [Bool.not_eq_eq_eq_not, Bool.not_true, Bool.not_false, Bool.and_eq_true, Bool.and_eq_false_iff, decide_eq_true_eq, decide_eq_false_iff_not] at ht); (try simp only [Int.toNat_natCast, dflt_int] at ht))) | (refine ht ?_ ?_ <;> clear ht) | (refine ht.1 ?_ ?_ <;> clear ht) | (refine ht ?_; clear ht))
    all_goals first
      | (intro r h1 h2; clear h1; refine h2 ⟨[0, 3, 4], Nat, (fun i => i ≤ b.length), fun i => [.imm (.int .u8) b, .int .u64 (numT b i), .int .i64 i], fun _ => [], fun i => b.length - i, ⟨0, Nat.zero_le _, rfl, rfl⟩, ?_⟩; clear h2)
    intro i hi
    repeat' (intro t ht; first | (cases t <;> first | (cases ht; done) | ((try simp only [Bool.not_eq_eq_eq_not, Bool.not_true, Bool.not_false, Bool.and_eq_true, Bool.and_eq_false_iff, decide_eq_true_eq, decide_eq_false_iff_not] at ht); (try simp only [Int.toNat_natCast, dflt_int] at ht))) | (refine ht ?_ ?_ <;> clear ht) | (refine ht.1 ?_ ?_ <;> clear ht) | (refine ht ?_; clear ht))
    all_goals first
      | ((try simp only [Int.toNat_natCast, dflt_int, decide_eq_true_eq, decide_eq_false_iff_not, Bool.not_eq_eq_eq_not, Bool.not_true, Bool.not_false, Bool.and_eq_true, Bool.and_eq_false_iff, min_i64, max_i64, min_u64, max_u64, min_u32, max_u32, min_u16, max_u16, min_u8, max_u8] at *); omega)
      | (have hge : b.length ≤ i := by omega
         refine ⟨?_, rfl⟩; rw [numT_end hge]; done)
      | (have hlt : i < b.length := by omega
         have hk := hb _ (getD_mem' (α := Int) hlt 0)
         have hn := numT_le hb i (by omega)
         first
           | ((try simp only [Int.toNat_natCast, dflt_int, decide_eq_true_eq, decide_eq_false_iff_not, Bool.not_eq_eq_eq_not, Bool.not_true, Bool.not_false, Bool.and_eq_true, Bool.and_eq_false_iff, min_i64, max_i64, min_u64, max_u64, min_u32, max_u32, min_u16, max_u16, min_u8, max_u8] at *); omega)
           | (refine ⟨i + 1, hlt, by (try simp only [Int.toNat_natCast, dflt_int, decide_eq_true_eq, decide_eq_false_iff_not, Bool.not_eq_eq_eq_not, Bool.not_true, Bool.not_false, Bool.and_eq_true, Bool.and_eq_false_iff, min_i64, max_i64, min_u64, max_u64, min_u32, max_u32, min_u16, max_u16, min_u8, max_u8] at *); omega, ?_, rfl⟩
              dsimp only
              rw [numT_step hlt]; rfl))
      | trace_state
  · cases e
theorem mkz_len {n : Nat} : (List.replicate n (0 : Int)).length = n := List.length_replicate
/-- Bytes of which those behind are told already. -/
def numR (n w : Int) (i : Nat) : List Int := List.replicate (w.toNat - i) 0 ++ (bytesN n w).drop (w.toNat - i)
theorem numR_zero {n w : Int} : numR n w 0 = List.replicate w.toNat 0 := by
  unfold numR bytesN; rw [List.drop_of_length_le (by rw [bytesT_len]; omega)]; simp
theorem numR_len {n w : Int} {i : Nat} (h : i ≤ w.toNat) : (numR n w i).length = w.toNat := by
  unfold numR bytesN; rw [List.length_append, List.length_replicate, List.length_drop, bytesT_len]; omega
theorem bytesN_getD {n w : Int} {j : Nat} (h : j < w.toNat) : (bytesN n w).getD j 0 = byteAt n w j := by
  unfold bytesN bytesT
  rw [List.getD_eq_getElem?_getD, List.getElem?_map, List.getElem?_range h]; rfl
theorem numR_step {n w : Int} {i : Nat} (h : i < w.toNat) : (numR n w i).set (w.toNat - 1 - i) (byteAt n w (w.toNat - 1 - i : Nat)) = numR n w (i + 1) := by
  have h1 : w.toNat - i = (w.toNat - (i + 1)) + 1 := by omega
  have hbl : (bytesN n w).length = w.toNat := by unfold bytesN; rw [bytesT_len]
  unfold numR
  rw [h1, List.replicate_succ', List.append_assoc, List.set_append_right _ _ (by rw [List.length_replicate]; omega), List.length_replicate, show w.toNat - 1 - i - (w.toNat - (i + 1)) = 0 by omega]
  rw [drop_step (l := bytesN n w) (i := w.toNat - (i + 1)) (by omega) 0, bytesN_getD (by omega), show w.toNat - (i + 1) = w.toNat - 1 - i by omega]
  rfl
def ir_r01_Num : IR :=
 (.seq
  (.keep [0, 1]
  (.reg ((⟨(some 4), .mov (.c (.imm (.int .u8) [])), none⟩ : IOper) ::
    [])))
  (.seq
   (.reg ((⟨(some 7), .mov (.t 1), none⟩ : IOper) ::
     (⟨(some 8), .mkrow (.int .u8) 1 (0 : Int) (.t 7) (.t 7), none⟩ : IOper) ::
     (⟨(some 5), .mov (.t 8), none⟩ : IOper) ::
     []))
   (.seq
    (.seq
     (.reg ((⟨(some 6), .mov (.c (.int .i64 0)), none⟩ : IOper) ::
       []))
     (.block 0
      (.loop
       (.seq
        (.seq
         (.keep [0, 1, 5, 6]
         (.reg ((⟨(some 9), .mov (.t 6), none⟩ : IOper) ::
           (⟨(some 10), .mov (.t 1), none⟩ : IOper) ::
           (⟨(some 11), .bin .lss (.t 9) (.t 10), none⟩ : IOper) ::
           [])))
         (.cond (.t 11)
          .skip
          (.exit 0)))
        (.seq
         (.block 1
          (.keep [0, 1, 5, 6]
          (.reg ((⟨(some 14), .mov (.t 5), none⟩ : IOper) ::
            (⟨(some 15), .mov (.t 1), none⟩ : IOper) ::
            (⟨(some 16), .bin .sub (.t 15) (.c (.int .i64 1)), none⟩ : IOper) ::
            (⟨(some 17), .mov (.t 6), none⟩ : IOper) ::
            (⟨(some 18), .bin .sub (.t 16) (.t 17), none⟩ : IOper) ::
            (⟨(some 19), .mov (.t 0), none⟩ : IOper) ::
            (⟨(some 20), .mov (.t 6), none⟩ : IOper) ::
            (⟨(some 21), .bin .mul (.c (.int .i64 8)) (.t 20), none⟩ : IOper) ::
            (⟨(some 22), .bin .shr (.t 19) (.t 21), none⟩ : IOper) ::
            (⟨(some 23), .conv .u8 (.t 22), none⟩ : IOper) ::
            (⟨(some 24), .indexSl 1 (.t 14) (.t 18), none⟩ : IOper) ::
            (⟨none, .store 1 (.t 24) (.t 23), none⟩ : IOper) ::
            []))))
         (.keep [0, 1, 5, 6]
         (.reg ((⟨(some 12), .mov (.t 6), none⟩ : IOper) ::
           (⟨(some 13), .bin .add (.t 12) (.c (.int .i64 1)), none⟩ : IOper) ::
           (⟨(some 6), .mov (.t 13), none⟩ : IOper) ::
           []))))))))
    (.seq
     (.keep [5]
     (.reg ((⟨(some 25), .mov (.t 5), none⟩ : IOper) ::
       (⟨(some 4), .mov (.t 25), none⟩ : IOper) ::
       [])))
     .ret))))
def rd_r01_Num : List RD := [.tmp 4 false none]
theorem ok_r01_Num : fnOk Tryd.prog Tryd.f98 ir_r01_Num rd_r01_Num = true := by kernel_rfl
def S_r01_Num : List AV → List Obj → Option (Prop × AV × List Obj)
  | [.int .u64 n, .int .i64 w], [] => some ((0 ≤ w ∧ w ≤ 100, .own 0, [.row false (.int .u8) (bytesN n w)]))
  | _, _ => none
theorem snd_r01_Num : SoundS Tryd.prog 98 (RwF S_r01_Num).sum := by
  refine rw_fn Tryd.func98 ok_r01_Num (env_nil _) fun args objs p v o e => ?_
  unfold S_r01_Num at e
  split at e
  · rename_i n w
    cases e
    refine ⟨rfl, fun hw ho hp => ?_⟩
    repeat' (intro t ht; first | (cases t <;> first | (cases ht; done) | ((try simp only [Bool.not_eq_eq_eq_not, Bool.not_true, Bool.not_false, Bool.and_eq_true, Bool.and_eq_false_iff, decide_eq_true_eq, decide_eq_false_iff_not] at ht); (try simp only [Int.toNat_natCast, dflt_int] at ht))) | (refine ht ?_ ?_ <;> clear ht) | (refine ht.1 ?_ ?_ <;> clear ht) | (refine ht ?_; clear ht))
    all_goals first
      | ((try simp only [Int.toNat_natCast, dflt_int, decide_eq_true_eq, decide_eq_false_iff_not, Bool.not_eq_eq_eq_not, Bool.not_true, Bool.not_false, Bool.and_eq_true, Bool.and_eq_false_iff, min_i64, max_i64, min_u64, max_u64, min_u32, max_u32, min_u16, max_u16, min_u8, max_u8] at *); omega)
      | (intro r h1 h2; clear h1; refine h2 ⟨[0, 1, 5, 6], Nat, (fun i => (i : Int) ≤ w), fun i => [.int .u64 n, .int .i64 w, .own 0, .int .i64 i], fun i => [.row false (.int .u8) (numR n w i)], fun i => w.toNat - i, ⟨0, hp.1, rfl, by simp only [numR_zero]⟩, ?_⟩; clear h2)
    intro i hi
    repeat' (intro t ht; first | (cases t <;> first | (cases ht; done) | ((try simp only [Bool.not_eq_eq_eq_not, Bool.not_true, Bool.not_false, Bool.and_eq_true, Bool.and_eq_false_iff, decide_eq_true_eq, decide_eq_false_iff_not] at ht); (try simp only [Int.toNat_natCast, dflt_int] at ht))) | (refine ht ?_ ?_ <;> clear ht) | (refine ht.1 (by simp only [min_i64, max_i64, min_u64, max_u64, min_u32, max_u32, min_u16, max_u16, min_u8, max_u8]; omega) ?_; clear ht) | (refine ht.2 ?_; clear ht) | (refine ht ?_; clear ht))
    all_goals first
      | omega
      | (simp only [numR_len (show i ≤ w.toNat by omega)]; omega)
      | (have e : w.toNat - i = 0 := by omega
         refine ⟨rfl, ?_⟩; unfold numR; rw [e]; rfl)
      | (have hlt : i < w.toNat := by omega
         refine ⟨i + 1, by dsimp only; omega, by dsimp only; omega, rfl, ?_⟩
         dsimp only
         rw [← numR_step hlt]
         have e1 : (w - 1 - (i : Int)).toNat = w.toNat - 1 - i := by omega
         have e2 : byteAt n w ((w.toNat - 1 - i : Nat) : Int) = IntKind.u8.wrap (n.fdiv (2 ^ min (8 * (i : Int)).toNat IntKind.u64.bits)) := by
           rw [wrap_u8]; unfold byteAt
           rw [show w - 1 - ((w.toNat - 1 - i : Nat) : Int) = i by omega]; rfl
         rw [e1, e2])
      | trace_state
  · cases e
end Go.Eng
