/- Contracts of functions of the given program, told by plain Lean functions. No condition. -/
import Derived.Test.YtgljcfbcdniffaaDoorProg
import Derived.Test.YtgljcfbcdniffaaDoorESum
import Derived.KernelRfl
import Derived.Test.YtgljcfbcdniffaaDoorR1
namespace Go.Eng
open Go.Proofs
set_option linter.unusedVariables false
set_option linter.unusedSimpArgs false
set_option maxRecDepth 100000
set_option maxHeartbeats 1000000
theorem or_add {a b : Nat} {n : Nat} (h : b < 2 ^ n) : (a * 2 ^ n) ||| b = a * 2 ^ n + b := by
  have := Nat.shiftLeft_add_eq_or_of_lt h a
  rw [Nat.shiftLeft_eq] at this; exact this.symm
theorem or_byte {n c : Int} (hn : 0 ≤ n) (hm : n * 256 + c ≤ 18446744073709551615) (h0 : 0 ≤ c) (h1 : c ≤ 255) : bitop .or .u64 (n * 256) c = n * 256 + c := by
  obtain ⟨a, rfl⟩ := Int.eq_ofNat_of_zero_le hn
  obtain ⟨b, rfl⟩ := Int.eq_ofNat_of_zero_le h0
  have hb : b < 2 ^ 8 := by omega
  have hlt : a * 256 + b < 2 ^ 64 := by omega
  have e1 : (BitVec.ofInt 64 ((a : Int) * 256)).toNat = a * 256 := by
    have : ((a : Int) * 256) = ((a * 256 : Nat) : Int) := by simp
    rw [this, BitVec.ofInt_natCast, BitVec.toNat_ofNat]; exact Nat.mod_eq_of_lt (by omega)
  have e2 : (BitVec.ofInt 64 (b : Int)).toNat = b := by
    rw [BitVec.ofInt_natCast, BitVec.toNat_ofNat]; exact Nat.mod_eq_of_lt (by omega)
  have e3 : (BitVec.ofInt 64 ((a : Int) * 256) ||| BitVec.ofInt 64 (b : Int)).toNat = a * 256 + b := by
    rw [BitVec.toNat_or, e1, e2]; exact or_add (n := 8) hb
  show IntKind.u64.wrap ((BitVec.ofInt 64 ((a : Int) * 256) ||| BitVec.ofInt 64 (b : Int)).toNat : Int) = _
  rw [e3, wrap_id ⟨by rw [min_u64]; omega, by rw [max_u64]; omega⟩]
  simp
/-- The number that bytes are. -/
def numL (b : List Int) : Int := b.foldl (fun n c => n * 256 + c) 0
theorem numL_snoc (l : List Int) (c : Int) : numL (l ++ [c]) = numL l * 256 + c := by simp [numL]
theorem numA_le : ∀ (l : List Int) (a : Int), (∀ x ∈ l, 0 ≤ x ∧ x ≤ 255) → 0 ≤ a → 0 ≤ l.foldl (fun n c => n * 256 + c) a ∧ l.foldl (fun n c => n * 256 + c) a < (a + 1) * 256 ^ l.length
  | [], a, _, ha => by simp; omega
  | c :: l, a, h, ha => by
    have hc := h c (by simp)
    have ih := numA_le l (a * 256 + c) (fun x hx => h x (by simp [hx])) (by omega)
    rw [List.foldl_cons, List.length_cons, Int.pow_succ, Int.mul_comm (256 ^ l.length) 256, ← Int.mul_assoc]
    have hp : (0 : Int) ≤ 256 ^ l.length := Int.le_of_lt (Int.pow_pos (by decide))
    have hm := Int.mul_le_mul_of_nonneg_right (show a * 256 + c + 1 ≤ (a + 1) * 256 by omega) hp
    omega
theorem numL_le (l : List Int) (h : ∀ x ∈ l, 0 ≤ x ∧ x ≤ 255) : 0 ≤ numL l ∧ numL l < 256 ^ l.length := by
  have := numA_le l 0 h (Int.le_refl _)
  rwa [Int.zero_add, Int.one_mul] at this
def numT (b : List Int) (i : Nat) : Int := numL (b.take i)
theorem numT_step {b : List Int} {i : Nat} (h : i < b.length) : numT b (i + 1) = numT b i * 256 + b.getD i 0 := by
  unfold numT
  rw [List.take_succ_eq_append_getElem h, numL_snoc, List.getD_eq_getElem?_getD, List.getElem?_eq_getElem h]; rfl
theorem numT_end {b : List Int} {i : Nat} (h : b.length ≤ i) : numT b i = numL b := by unfold numT; rw [List.take_of_length_le h]
theorem pow256 : ∀ k ≤ 8, (256 : Int) ^ k ≤ 18446744073709551616 := by decide
theorem pow256' : ∀ k ≤ 7, (256 : Int) ^ k ≤ 72057594037927936 := by decide
theorem numT_le {b : List Int} (hb : ∀ x ∈ b, 0 ≤ x ∧ x ≤ 255) (i : Nat) (hi : i ≤ 7) : 0 ≤ numT b i ∧ numT b i < 72057594037927936 := by
  have h1 := numL_le (b.take i) fun x hx => hb x (List.mem_of_mem_take hx)
  have h2 : (256 : Int) ^ (b.take i).length ≤ 72057594037927936 := pow256' _ (by rw [List.length_take]; omega)
  unfold numT; omega
def ir_row_number : IR :=
 (.seq
  (.keep [0]
  (.reg ((⟨(some 2), .mov (.c (.int .u64 0)), none⟩ : IOper) ::
    [])))
  (.seq
   (.seq
    (.reg ((⟨(some 5), .mov (.t 0), none⟩ : IOper) ::
      (⟨(some 6), .len (.t 5), none⟩ : IOper) ::
      (⟨(some 7), .mov (.c (.int .i64 0)), none⟩ : IOper) ::
      []))
    (.block 0
     (.loop
      (.seq
       (.keep [2, 5, 6, 7]
       (.reg ((⟨(some 8), .bin .lss (.t 7) (.t 6), none⟩ : IOper) ::
         [])))
       (.seq
        (.cond (.t 8)
         .skip
         (.exit 0))
        (.seq
         (.block 1
          (.seq
           (.reg ((⟨(some 9), .indexSl 1 (.t 5) (.t 7), none⟩ : IOper) ::
             (⟨(some 10), .load none (.t 9), none⟩ : IOper) ::
             (⟨(some 4), .mov (.t 10), none⟩ : IOper) ::
             []))
           (.keep [2, 4, 5, 6, 7]
           (.reg ((⟨(some 11), .mov (.t 2), none⟩ : IOper) ::
             (⟨(some 12), .bin .shl (.t 11) (.c (.int .u64 8)), none⟩ : IOper) ::
             (⟨(some 13), .mov (.t 4), none⟩ : IOper) ::
             (⟨(some 14), .conv .u64 (.t 13), none⟩ : IOper) ::
             (⟨(some 15), .bin .or (.t 12) (.t 14), none⟩ : IOper) ::
             (⟨(some 2), .mov (.t 15), none⟩ : IOper) ::
             [])))))
         (.keep [2, 5, 6, 7]
         (.reg ((⟨(some 16), .bin .add (.t 7) (.c (.int .i64 1)), none⟩ : IOper) ::
           (⟨(some 7), .mov (.t 16), none⟩ : IOper) ::
           [])))))))))
   (.seq
    (.keep [2]
    (.reg ((⟨(some 17), .mov (.t 2), none⟩ : IOper) ::
      (⟨(some 2), .mov (.t 17), none⟩ : IOper) ::
      [])))
    .ret)))
def rd_row_number : List RD := [.tmp 2 true none]
theorem ok_row_number : fnOk Tryd.prog Tryd.f140 ir_row_number rd_row_number = true := by kernel_rfl
def S_row_number : List AV → List Obj → Option (Prop × AV)
  | [.imm (.int .u8) b], [] => some ((b.length ≤ 8, .int .u64 (numL b)))
  | _, _ => none
theorem snd_row_number : SoundS Tryd.prog 140 (RoF S_row_number).sum := by
  refine ro_fn Tryd.func140 ok_row_number (env_nil _) fun args objs p v e => ?_
  unfold S_row_number at e
  split at e
  · rename_i b
    cases e
    refine ⟨rfl, fun hw ho hp => ?_⟩
    change List Int at b
    have hb : ∀ x ∈ (b : List Int), (0 : Int) ≤ x ∧ x ≤ 255 := fun x hx => (hw (.imm (.int .u8) b) (by simp)).1 x hx
    repeat' (intro t ht; first | (cases t <;> first | (cases ht; done) | ((try simp only [Bool.not_eq_eq_eq_not, Bool.not_true, Bool.not_false, Bool.and_eq_true, Bool.and_eq_false_iff, decide_eq_true_eq, decide_eq_false_iff_not] at ht); (try simp only [Int.toNat_natCast, dflt_int] at ht))) | (refine ht ?_ ?_ <;> clear ht) | (refine ht.1 ?_ ?_ <;> clear ht) | (refine ht ?_; clear ht))
    all_goals first
      | (intro r h1 h2; clear h1; refine h2 ⟨[2, 5, 6, 7], Nat, (fun i => i ≤ b.length), fun i => [.int .u64 (numT b i), .imm (.int .u8) b, .int .i64 b.length, .int .i64 i], fun _ => [], fun i => b.length - i, ⟨0, Nat.zero_le _, rfl, rfl⟩, ?_⟩; clear h2)
    intro i hi
    repeat' (intro t ht; first | (cases t <;> first | (cases ht; done) | ((try simp only [Bool.not_eq_eq_eq_not, Bool.not_true, Bool.not_false, Bool.and_eq_true, Bool.and_eq_false_iff, decide_eq_true_eq, decide_eq_false_iff_not] at ht); (try simp only [Int.toNat_natCast, dflt_int] at ht))) | (refine ht ?_ ?_ <;> clear ht) | (refine ht.1 ?_ ?_ <;> clear ht) | (refine ht ?_; clear ht))
    all_goals first
      | ((try simp only [Int.toNat_natCast, dflt_int, decide_eq_true_eq, decide_eq_false_iff_not, Bool.not_eq_eq_eq_not, Bool.not_true, Bool.not_false, Bool.and_eq_true, Bool.and_eq_false_iff, min_i64, max_i64, min_u64, max_u64, min_u32, max_u32, min_u16, max_u16, min_u8, max_u8] at *); omega)
      | (have hge : b.length ≤ i := by omega
         refine ⟨?_, rfl⟩; rw [numT_end hge]; done)
      | exact (by decide)
      | (have hlt : i < b.length := by omega
         have hk := hb _ (getD_mem' (α := Int) hlt 0)
         have hn := numT_le hb i (by omega)
         first
           | (show IntKind.u64.min ≤ numT b i * 256 ∧ numT b i * 256 ≤ IntKind.u64.max; (try simp only [Int.toNat_natCast, dflt_int, decide_eq_true_eq, decide_eq_false_iff_not, Bool.not_eq_eq_eq_not, Bool.not_true, Bool.not_false, Bool.and_eq_true, Bool.and_eq_false_iff, min_i64, max_i64, min_u64, max_u64, min_u32, max_u32, min_u16, max_u16, min_u8, max_u8] at *); omega)
           | ((try simp only [Int.toNat_natCast, dflt_int, decide_eq_true_eq, decide_eq_false_iff_not, Bool.not_eq_eq_eq_not, Bool.not_true, Bool.not_false, Bool.and_eq_true, Bool.and_eq_false_iff, min_i64, max_i64, min_u64, max_u64, min_u32, max_u32, min_u16, max_u16, min_u8, max_u8] at *); omega)
           | (refine ⟨i + 1, hlt, by (try simp only [Int.toNat_natCast, dflt_int, decide_eq_true_eq, decide_eq_false_iff_not, Bool.not_eq_eq_eq_not, Bool.not_true, Bool.not_false, Bool.and_eq_true, Bool.and_eq_false_iff, min_i64, max_i64, min_u64, max_u64, min_u32, max_u32, min_u16, max_u16, min_u8, max_u8] at *); omega, ?_, rfl⟩
              dsimp only
              rw [numT_step hlt]
              have e : bitop .or .u64 (numT b i * 256) (b.getD i 0) = numT b i * 256 + b.getD i 0 := or_byte hn.1 (by omega) hk.1 hk.2
              rw [← e]; rfl))
      | trace_state
  · cases e
def zeroL (b : List Int) : Bool := b.all fun c => decide (c = 0)
def ir_row_zero : IR :=
 (.seq
  (.keep [0]
  (.reg ((⟨(some 2), .mov (.c (.kb false)), none⟩ : IOper) ::
    [])))
  (.seq
   (.seq
    (.reg ((⟨(some 5), .mov (.t 0), none⟩ : IOper) ::
      (⟨(some 6), .len (.t 5), none⟩ : IOper) ::
      (⟨(some 7), .mov (.c (.int .i64 0)), none⟩ : IOper) ::
      []))
    (.block 0
     (.loop
      (.seq
       (.keep [5, 6, 7]
       (.reg ((⟨(some 8), .bin .lss (.t 7) (.t 6), none⟩ : IOper) ::
         [])))
       (.seq
        (.cond (.t 8)
         .skip
         (.exit 0))
        (.seq
         (.block 1
          (.seq
           (.reg ((⟨(some 9), .indexSl 1 (.t 5) (.t 7), none⟩ : IOper) ::
             (⟨(some 10), .load none (.t 9), none⟩ : IOper) ::
             (⟨(some 4), .mov (.t 10), none⟩ : IOper) ::
             []))
           (.seq
            (.reg ((⟨(some 11), .mov (.t 4), none⟩ : IOper) ::
              (⟨(some 12), .bin .neq (.t 11) (.c (.int .u8 0)), none⟩ : IOper) ::
              []))
            (.cond (.t 12)
             (.seq
              (.keep []
              (.reg ((⟨(some 2), .mov (.c (.kb false)), none⟩ : IOper) ::
                [])))
              .ret)
             .skip))))
         (.keep [5, 6, 7]
         (.reg ((⟨(some 13), .bin .add (.t 7) (.c (.int .i64 1)), none⟩ : IOper) ::
           (⟨(some 7), .mov (.t 13), none⟩ : IOper) ::
           [])))))))))
   (.seq
    (.keep []
    (.reg ((⟨(some 2), .mov (.c (.kb true)), none⟩ : IOper) ::
      [])))
    .ret)))
def rd_row_zero : List RD := [.tmp 2 true none]
theorem ok_row_zero : fnOk Tryd.prog Tryd.f141 ir_row_zero rd_row_zero = true := by kernel_rfl
def S_row_zero : List AV → List Obj → Option (Prop × AV)
  | [.imm (.int .u8) b], [] => some ((True, .bool (zeroL b)))
  | _, _ => none
theorem snd_row_zero : SoundS Tryd.prog 141 (RoF S_row_zero).sum := by
  refine ro_fn Tryd.func141 ok_row_zero (env_nil _) fun args objs p v e => ?_
  unfold S_row_zero at e
  split at e
  · rename_i b
    cases e
    refine ⟨rfl, fun hw ho hp => ?_⟩
    change List Int at b
    have hl : b.length ≤ maxLen := (hw (.imm (.int .u8) b) (by simp)).2
    unfold maxLen at hl
    repeat' (intro t ht; first | (cases t <;> first | (cases ht; done) | ((try simp only [Bool.not_eq_eq_eq_not, Bool.not_true, Bool.not_false, Bool.and_eq_true, Bool.and_eq_false_iff, decide_eq_true_eq, decide_eq_false_iff_not] at ht); (try simp only [Int.toNat_natCast, dflt_int] at ht))) | (refine ht ?_ ?_ <;> clear ht) | (refine ht.1 ?_ ?_ <;> clear ht) | (refine ht ?_; clear ht))
    all_goals first
      | (intro r h1 h2; clear h1; refine h2 ⟨[5, 6, 7], Nat, (fun i => i ≤ b.length ∧ zeroL b = zeroL (b.drop i)), fun i => [.imm (.int .u8) b, .int .i64 b.length, .int .i64 i], fun _ => [], fun i => b.length - i, ⟨0, ⟨Nat.zero_le _, rfl⟩, rfl, rfl⟩, ?_⟩; clear h2)
    rintro i ⟨hi, he⟩
    repeat' (intro t ht; first | (cases t <;> first | (cases ht; done) | ((try simp only [Bool.not_eq_eq_eq_not, Bool.not_true, Bool.not_false, Bool.and_eq_true, Bool.and_eq_false_iff, decide_eq_true_eq, decide_eq_false_iff_not] at ht); (try simp only [Int.toNat_natCast, dflt_int] at ht))) | (refine ht ?_ ?_ <;> clear ht) | (refine ht.1 ?_ ?_ <;> clear ht) | (refine ht ?_; clear ht))
    all_goals first
      | ((try simp only [Int.toNat_natCast, dflt_int, decide_eq_true_eq, decide_eq_false_iff_not, Bool.not_eq_eq_eq_not, Bool.not_true, Bool.not_false, Bool.and_eq_true, Bool.and_eq_false_iff, min_i64, max_i64, min_u64, max_u64, min_u32, max_u32, min_u16, max_u16, min_u8, max_u8] at *); omega)
      | (have hge : b.length ≤ i := by omega
         refine ⟨?_, rfl⟩; rw [he, List.drop_of_length_le hge]; rfl)
      | (have hlt : i < b.length := by omega
         rw [drop_step hlt 0] at he
         unfold zeroL at he
         rw [List.all_cons] at he
         first
           | (have hk : decide (b.getD i 0 = 0) = false := decide_eq_false (by assumption)
              refine ⟨?_, rfl⟩; unfold zeroL; rw [he, hk]; rfl)
           | (have hk : decide (b.getD i 0 = 0) = true := decide_eq_true (by assumption)
              rw [hk, Bool.true_and] at he
              exact ⟨i + 1, ⟨hlt, he⟩, by (try simp only [Int.toNat_natCast, dflt_int, decide_eq_true_eq, decide_eq_false_iff_not, Bool.not_eq_eq_eq_not, Bool.not_true, Bool.not_false, Bool.and_eq_true, Bool.and_eq_false_iff, min_i64, max_i64, min_u64, max_u64, min_u32, max_u32, min_u16, max_u16, min_u8, max_u8] at *); omega, rfl, rfl⟩))
      | trace_state
  · cases e
end Go.Eng
