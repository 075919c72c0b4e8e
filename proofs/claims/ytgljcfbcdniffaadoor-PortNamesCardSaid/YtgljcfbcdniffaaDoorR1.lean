/- Contracts of functions of the given program, told by plain Lean functions. No condition. -/
import Derived.Test.YtgljcfbcdniffaaDoorProg
import Derived.Test.YtgljcfbcdniffaaDoorESum
import Derived.KernelRfl
namespace Go.Eng
open Go.Proofs
set_option linter.unusedVariables false
set_option linter.unusedSimpArgs false
set_option maxRecDepth 100000
set_option maxHeartbeats 1000000
theorem drop_step {α : Type} {l : List α} {i : Nat} (h : i < l.length) (d : α) : l.drop i = l.getD i d :: l.drop (i + 1) := by
  rw [List.drop_eq_getElem_cons h, List.getD_eq_getElem?_getD, List.getElem?_eq_getElem h]; rfl
theorem getD_mem' {α : Type} {l : List α} {j : Nat} (h : j < l.length) (d : α) : l.getD j d ∈ l := by
  rw [List.getD_eq_getElem?_getD, List.getElem?_eq_getElem h]; exact List.getElem_mem h
def okW (n : Int) : Bool := !(decide (n = 0) || decide (8 < n) || decide (n < -64))
theorem okW_t {n : Int} : okW n = true ↔ n ≠ 0 ∧ n ≤ 8 ∧ -64 ≤ n := by unfold okW; simp; omega
theorem okW_f {n : Int} : okW n = false ↔ ¬ (n ≠ 0 ∧ n ≤ 8 ∧ -64 ≤ n) := by rw [← okW_t]; simp
def rightF (w : List Int) : Bool := decide (w.length ≤ 64) && w.all okW
theorem rightF_t {w : List Int} : rightF w = true ↔ w.length ≤ 64 ∧ ∀ n ∈ w, n ≠ 0 ∧ n ≤ 8 ∧ -64 ≤ n := by
  unfold rightF; simp only [Bool.and_eq_true, decide_eq_true_eq, List.all_eq_true, okW_t]
def ir_row_Right : IR :=
 (.seq
  (.keep [0]
  (.reg ((⟨(some 2), .mov (.c (.kb false)), none⟩ : IOper) ::
    [])))
  (.seq
   (.seq
    (.reg ((⟨(some 5), .mov (.t 0), none⟩ : IOper) ::
      (⟨(some 6), .len (.t 5), none⟩ : IOper) ::
      (⟨(some 7), .bin .gtr (.t 6) (.c (.int .i64 64)), none⟩ : IOper) ::
      []))
    (.cond (.t 7)
     (.seq
      (.reg ((⟨(some 2), .mov (.c (.kb false)), none⟩ : IOper) ::
        []))
      .ret)
     .skip))
   (.seq
    (.seq
     (.reg ((⟨(some 8), .mov (.t 0), none⟩ : IOper) ::
       (⟨(some 9), .len (.t 8), none⟩ : IOper) ::
       (⟨(some 10), .mov (.c (.int .i64 0)), none⟩ : IOper) ::
       []))
     (.block 0
      (.loop
       (.seq
        (.keep [8, 9, 10]
        (.reg ((⟨(some 11), .bin .lss (.t 10) (.t 9), none⟩ : IOper) ::
          [])))
        (.seq
         (.cond (.t 11)
          .skip
          (.exit 0))
         (.seq
          (.block 1
           (.seq
            (.reg ((⟨(some 12), .indexSl 1 (.t 8) (.t 10), none⟩ : IOper) ::
              (⟨(some 13), .load none (.t 12), none⟩ : IOper) ::
              (⟨(some 4), .mov (.t 13), none⟩ : IOper) ::
              []))
            (.seq
             (.keep [4, 8, 9, 10]
             (.reg ((⟨(some 14), .mov (.t 4), none⟩ : IOper) ::
               (⟨(some 15), .bin .eql (.t 14) (.c (.int .i64 0)), none⟩ : IOper) ::
               (⟨(some 16), .mov (.t 15), none⟩ : IOper) ::
               (⟨(some 17), .mov (.t 4), (some (16, false))⟩ : IOper) ::
               (⟨(some 18), .bin .gtr (.t 17) (.c (.int .i64 8)), (some (16, false))⟩ : IOper) ::
               (⟨(some 19), .pick (.t 16) (.c (.kb true)) (.t 18), none⟩ : IOper) ::
               (⟨(some 20), .mov (.t 19), none⟩ : IOper) ::
               (⟨(some 21), .mov (.t 4), (some (20, false))⟩ : IOper) ::
               (⟨(some 22), .bin .lss (.t 21) (.c (.int .i64 (-64))), (some (20, false))⟩ : IOper) ::
               (⟨(some 23), .pick (.t 20) (.c (.kb true)) (.t 22), none⟩ : IOper) ::
               [])))
             (.cond (.t 23)
              (.seq
               (.keep []
               (.reg ((⟨(some 2), .mov (.c (.kb false)), none⟩ : IOper) ::
                 [])))
               .ret)
              .skip))))
          (.keep [8, 9, 10]
          (.reg ((⟨(some 24), .bin .add (.t 10) (.c (.int .i64 1)), none⟩ : IOper) ::
            (⟨(some 10), .mov (.t 24), none⟩ : IOper) ::
            [])))))))))
    (.seq
     (.keep []
     (.reg ((⟨(some 2), .mov (.c (.kb true)), none⟩ : IOper) ::
       [])))
     .ret))))
def rd_row_Right : List RD := [.tmp 2 true none]
theorem ok_row_Right : fnOk Tryd.prog Tryd.f139 ir_row_Right rd_row_Right = true := by kernel_rfl
def S_row_Right : List AV → List Obj → Option (Prop × AV)
  | [.imm (.int .i64) w], [] => some ((True, .bool (rightF w)))
  | _, _ => none
theorem snd_row_Right : SoundS Tryd.prog 139 (RoF S_row_Right).sum := by
  refine ro_fn Tryd.func139 ok_row_Right (env_nil _) fun args objs p v e => ?_
  unfold S_row_Right at e
  split at e
  · rename_i w
    cases e
    refine ⟨rfl, fun hw ho hp => ?_⟩
    change List Int at w
    repeat' (intro t ht; first | (cases t <;> first | (cases ht; done) | ((try simp only [Bool.not_eq_eq_eq_not, Bool.not_true, Bool.not_false, Bool.and_eq_true, Bool.and_eq_false_iff, decide_eq_true_eq, decide_eq_false_iff_not] at ht); (try simp only [Int.toNat_natCast, dflt_int] at ht))) | (refine ht ?_ ?_ <;> clear ht) | (refine ht.1 ?_ ?_ <;> clear ht) | (refine ht ?_; clear ht))
    all_goals first
      | (have h64 : ¬ w.length ≤ 64 := by omega
         refine ⟨?_, rfl⟩; unfold rightF; rw [decide_eq_false h64]; rfl)
      | (intro r h1 h2; clear h1; refine h2 ⟨[8, 9, 10], Nat, (fun i => i ≤ w.length ∧ w.all okW = (w.drop i).all okW), fun i => [.imm (.int .i64) w, .int .i64 w.length, .int .i64 i], fun _ => [], fun i => w.length - i, ⟨0, ⟨Nat.zero_le _, rfl⟩, rfl, rfl⟩, ?_⟩; clear h2)
    rintro i ⟨hi, he⟩
    repeat' (intro t ht; first | (cases t <;> first | (cases ht; done) | ((try simp only [Bool.not_eq_eq_eq_not, Bool.not_true, Bool.not_false, Bool.and_eq_true, Bool.and_eq_false_iff, decide_eq_true_eq, decide_eq_false_iff_not] at ht); (try simp only [Int.toNat_natCast, dflt_int] at ht))) | (refine ht ?_ ?_ <;> clear ht) | (refine ht.1 ?_ ?_ <;> clear ht) | (refine ht ?_; clear ht))
    all_goals first
      | ((try simp only [Int.toNat_natCast, dflt_int, decide_eq_true_eq, decide_eq_false_iff_not, Bool.not_eq_eq_eq_not, Bool.not_true, Bool.not_false, Bool.and_eq_true, Bool.and_eq_false_iff, min_i64, max_i64, min_u64, max_u64, min_u32, max_u32, min_u16, max_u16, min_u8, max_u8] at *); omega)
      | (have h64 : w.length ≤ 64 := by omega
         have hge : w.length ≤ i := by omega
         refine ⟨?_, rfl⟩; unfold rightF; rw [he, decide_eq_true h64, List.drop_of_length_le hge]; rfl)
      | (have hlt : i < w.length := by omega
         rw [drop_step hlt 0, List.all_cons] at he
         first
           | (have hk : okW (w.getD i 0) = false := okW_f.2 (by omega)
              refine ⟨?_, rfl⟩; unfold rightF; rw [he, hk]; simp; done)
           | (have hk : okW (w.getD i 0) = true := okW_t.2 (by omega)
              rw [hk, Bool.true_and] at he
              exact ⟨i + 1, ⟨hlt, he⟩, by (try simp only [Int.toNat_natCast, dflt_int, decide_eq_true_eq, decide_eq_false_iff_not, Bool.not_eq_eq_eq_not, Bool.not_true, Bool.not_false, Bool.and_eq_true, Bool.and_eq_false_iff, min_i64, max_i64, min_u64, max_u64, min_u32, max_u32, min_u16, max_u16, min_u8, max_u8] at *); omega, rfl, rfl⟩))
  · cases e
def absI (n : Int) : Int := if 0 - n > n then 0 - n else n
theorem absI_neg {n : Int} (h : n < 0) : absI n = -n := by unfold absI; split <;> omega
theorem absI_nn {n : Int} (h : ¬ n < 0) : absI n = n := by unfold absI; split <;> omega
theorem absI_le {n : Int} : 0 ≤ absI n ∧ n ≤ absI n ∧ -n ≤ absI n ∧ (absI n = n ∨ absI n = -n) := by unfold absI; split <;> omega
def oneI (n : Int) : Int := if 0 < n then 1 else 0
def sumT (f : Int → Int) (w : List Int) (i : Nat) : Int := ((w.take i).map f).sum
theorem sumT_step (f : Int → Int) {l : List Int} {i : Nat} (h : i < l.length) : sumT f l (i + 1) = sumT f l i + f (l.getD i 0) := by
  unfold sumT
  rw [List.take_succ_eq_append_getElem h, List.map_append, List.sum_append]
  have : l.getD i 0 = l[i] := by rw [List.getD_eq_getElem?_getD, List.getElem?_eq_getElem h]; rfl
  rw [this]; simp
theorem sumT_end (f : Int → Int) {l : List Int} {i : Nat} (h : l.length ≤ i) : sumT f l i = (l.map f).sum := by
  unfold sumT; rw [List.take_of_length_le h]
theorem sum_nn : ∀ {l : List Int} {c : Int}, (∀ x ∈ l, 0 ≤ x ∧ x ≤ c) → 0 ≤ l.sum ∧ l.sum ≤ c * l.length
  | [], c, _ => by simp
  | x :: l, c, h => by
    have h1 := h x (by simp)
    have h2 := sum_nn (l := l) (c := c) fun y hy => h y (by simp [hy])
    rw [List.sum_cons, List.length_cons, Int.natCast_add, Int.mul_add]
    omega
theorem sumT_abs {w : List Int} (h : rightF w = true) (i : Nat) : 0 ≤ sumT absI w i ∧ sumT absI w i ≤ 4096 := by
  obtain ⟨h1, h2⟩ := rightF_t.1 h
  unfold sumT
  have := sum_nn (l := (w.take i).map absI) (c := 64) fun x hx => by
    obtain ⟨y, hy, rfl⟩ := List.mem_map.1 hx
    have := h2 y (List.mem_of_mem_take hy)
    have := absI_le (n := y); omega
  rw [List.length_map, List.length_take] at this
  omega
theorem sumT_one {w : List Int} (h : rightF w = true) (i : Nat) : 0 ≤ sumT oneI w i ∧ sumT oneI w i ≤ 64 := by
  obtain ⟨h1, h2⟩ := rightF_t.1 h
  unfold sumT
  have := sum_nn (l := (w.take i).map oneI) (c := 1) fun x hx => by
    obtain ⟨y, hy, rfl⟩ := List.mem_map.1 hx
    unfold oneI; split <;> omega
  rw [List.length_map, List.length_take] at this
  omega
def sizeW (w : List Int) : Int := if rightF w then (w.map absI).sum else 0
def countW (w : List Int) : Int := if rightF w then (w.map oneI).sum else 0
theorem sizeW_le (w : List Int) : 0 ≤ sizeW w ∧ sizeW w ≤ 4096 := by
  unfold sizeW; split
  · rename_i h; have := sumT_abs h w.length; rwa [sumT_end absI (Nat.le_refl _)] at this
  · omega
theorem countW_le (w : List Int) : 0 ≤ countW w ∧ countW w ≤ 64 := by
  unfold countW; split
  · rename_i h; have := sumT_one h w.length; rwa [sumT_end oneI (Nat.le_refl _)] at this
  · omega
def ir_row_Size : IR :=
 (.seq
  (.keep [0]
  (.reg ((⟨(some 2), .mov (.c (.int .i64 0)), none⟩ : IOper) ::
    [])))
  (.seq
   (.seq
    (.reg ((⟨(some 5), .mov (.t 0), none⟩ : IOper) ::
      (⟨(some 6), .call false (.f 139) [(.t 5)], none⟩ : IOper) ::
      (⟨(some 7), .un .not (.t 6), none⟩ : IOper) ::
      []))
    (.cond (.t 7)
     (.seq
      (.reg ((⟨(some 2), .mov (.c (.int .i64 0)), none⟩ : IOper) ::
        []))
      .ret)
     .skip))
   (.seq
    (.seq
     (.reg ((⟨(some 8), .mov (.t 0), none⟩ : IOper) ::
       (⟨(some 9), .len (.t 8), none⟩ : IOper) ::
       (⟨(some 10), .mov (.c (.int .i64 0)), none⟩ : IOper) ::
       []))
     (.block 0
      (.loop
       (.seq
        (.keep [2, 8, 9, 10]
        (.reg ((⟨(some 11), .bin .lss (.t 10) (.t 9), none⟩ : IOper) ::
          [])))
        (.seq
         (.cond (.t 11)
          .skip
          (.exit 0))
         (.seq
          (.block 1
           (.seq
            (.reg ((⟨(some 12), .indexSl 1 (.t 8) (.t 10), none⟩ : IOper) ::
              (⟨(some 13), .load none (.t 12), none⟩ : IOper) ::
              (⟨(some 4), .mov (.t 13), none⟩ : IOper) ::
              []))
            (.keep [2, 4, 8, 9, 10]
            (.reg ((⟨(some 14), .mov (.t 2), none⟩ : IOper) ::
              (⟨(some 15), .mov (.t 4), none⟩ : IOper) ::
              (⟨(some 16), .mov (.t 4), none⟩ : IOper) ::
              (⟨(some 17), .un .neg (.t 16), none⟩ : IOper) ::
              (⟨(some 18), .minmax true (.t 15) (.t 17), none⟩ : IOper) ::
              (⟨(some 19), .bin .add (.t 14) (.t 18), none⟩ : IOper) ::
              (⟨(some 2), .mov (.t 19), none⟩ : IOper) ::
              [])))))
          (.keep [2, 8, 9, 10]
          (.reg ((⟨(some 20), .bin .add (.t 10) (.c (.int .i64 1)), none⟩ : IOper) ::
            (⟨(some 10), .mov (.t 20), none⟩ : IOper) ::
            [])))))))))
    (.seq
     (.keep [2]
     (.reg ((⟨(some 21), .mov (.t 2), none⟩ : IOper) ::
       (⟨(some 2), .mov (.t 21), none⟩ : IOper) ::
       [])))
     .ret))))
def rd_row_Size : List RD := [.tmp 2 true none]
theorem ok_row_Size : fnOk Tryd.prog Tryd.f115 ir_row_Size rd_row_Size = true := by kernel_rfl
def S_row_Size : List AV → List Obj → Option (Prop × AV)
  | [.imm (.int .i64) w], [] => some ((True, .int .i64 (sizeW w)))
  | _, _ => none
theorem snd_row_Size : SoundS Tryd.prog 115 (RoF S_row_Size).sum := by
  refine ro_fn Tryd.func115 ok_row_Size (env_cons (s := RoF S_row_Right) snd_row_Right (env_nil _)) fun args objs p v e => ?_
  unfold S_row_Size at e
  split at e
  · rename_i w
    cases e
    refine ⟨rfl, fun hw ho hp => ?_⟩
    change List Int at w
    repeat' (intro t ht; first | (cases t <;> first | (cases ht; done) | ((try simp only [Bool.not_eq_eq_eq_not, Bool.not_true, Bool.not_false, Bool.and_eq_true, Bool.and_eq_false_iff, decide_eq_true_eq, decide_eq_false_iff_not] at ht); (try simp only [Int.toNat_natCast, dflt_int] at ht))) | (refine ht ?_ ?_ <;> clear ht) | (refine ht.1 ?_ ?_ <;> clear ht) | (refine ht ?_; clear ht))
    all_goals first
      | exact True.intro
      | (refine ⟨?_, rfl⟩; unfold sizeW; simp_all; done)
      | (intro r h1 h2; clear h1; refine h2 ⟨[2, 8, 9, 10], Nat, (fun i => i ≤ w.length), fun i => [.int .i64 (sumT absI w i), .imm (.int .i64) w, .int .i64 w.length, .int .i64 i], fun _ => [], fun i => w.length - i, ⟨0, Nat.zero_le _, rfl, rfl⟩, ?_⟩; clear h2)
    intro i hi
    have hr : rightF w = true := by assumption
    have hl := (rightF_t.1 hr).1
    have hs := sumT_abs hr i
    repeat' (intro t ht; first | (cases t <;> first | (cases ht; done) | ((try simp only [Bool.not_eq_eq_eq_not, Bool.not_true, Bool.not_false, Bool.and_eq_true, Bool.and_eq_false_iff, decide_eq_true_eq, decide_eq_false_iff_not] at ht); (try simp only [Int.toNat_natCast, dflt_int] at ht))) | (refine ht ?_ ?_ <;> clear ht) | (refine ht.1 ?_ ?_ <;> clear ht) | (refine ht ?_; clear ht))
    all_goals first
      | ((try simp only [Int.toNat_natCast, dflt_int, decide_eq_true_eq, decide_eq_false_iff_not, Bool.not_eq_eq_eq_not, Bool.not_true, Bool.not_false, Bool.and_eq_true, Bool.and_eq_false_iff, min_i64, max_i64, min_u64, max_u64, min_u32, max_u32, min_u16, max_u16, min_u8, max_u8] at *); omega)
      | (have hge : w.length ≤ i := by omega
         refine ⟨?_, rfl⟩; unfold sizeW; rw [if_pos hr, sumT_end absI hge]; done)
      | (have hlt : i < w.length := by omega
         have hk := (rightF_t.1 hr).2 _ (getD_mem' hlt 0)
         have ha := absI_le (n := w.getD i 0)
         first
           | ((try simp only [Int.toNat_natCast, dflt_int, decide_eq_true_eq, decide_eq_false_iff_not, Bool.not_eq_eq_eq_not, Bool.not_true, Bool.not_false, Bool.and_eq_true, Bool.and_eq_false_iff, min_i64, max_i64, min_u64, max_u64, min_u32, max_u32, min_u16, max_u16, min_u8, max_u8] at *); omega)
           | (show IntKind.i64.min ≤ sumT absI w i + absI (w.getD i 0) ∧ sumT absI w i + absI (w.getD i 0) ≤ IntKind.i64.max; (try simp only [Int.toNat_natCast, dflt_int, decide_eq_true_eq, decide_eq_false_iff_not, Bool.not_eq_eq_eq_not, Bool.not_true, Bool.not_false, Bool.and_eq_true, Bool.and_eq_false_iff, min_i64, max_i64, min_u64, max_u64, min_u32, max_u32, min_u16, max_u16, min_u8, max_u8] at *); omega)
           | (refine ⟨i + 1, hlt, by (try simp only [Int.toNat_natCast, dflt_int, decide_eq_true_eq, decide_eq_false_iff_not, Bool.not_eq_eq_eq_not, Bool.not_true, Bool.not_false, Bool.and_eq_true, Bool.and_eq_false_iff, min_i64, max_i64, min_u64, max_u64, min_u32, max_u32, min_u16, max_u16, min_u8, max_u8] at *); omega, ?_, rfl⟩
              dsimp only
              rw [sumT_step absI hlt]; rfl))
      | trace_state
  · cases e
def ir_row_Count : IR :=
 (.seq
  (.keep [0]
  (.reg ((⟨(some 2), .mov (.c (.int .i64 0)), none⟩ : IOper) ::
    [])))
  (.seq
   (.seq
    (.reg ((⟨(some 5), .mov (.t 0), none⟩ : IOper) ::
      (⟨(some 6), .call false (.f 139) [(.t 5)], none⟩ : IOper) ::
      (⟨(some 7), .un .not (.t 6), none⟩ : IOper) ::
      []))
    (.cond (.t 7)
     (.seq
      (.reg ((⟨(some 2), .mov (.c (.int .i64 0)), none⟩ : IOper) ::
        []))
      .ret)
     .skip))
   (.seq
    (.seq
     (.reg ((⟨(some 8), .mov (.t 0), none⟩ : IOper) ::
       (⟨(some 9), .len (.t 8), none⟩ : IOper) ::
       (⟨(some 10), .mov (.c (.int .i64 0)), none⟩ : IOper) ::
       []))
     (.block 0
      (.loop
       (.seq
        (.keep [2, 8, 9, 10]
        (.reg ((⟨(some 11), .bin .lss (.t 10) (.t 9), none⟩ : IOper) ::
          [])))
        (.seq
         (.cond (.t 11)
          .skip
          (.exit 0))
         (.seq
          (.block 1
           (.seq
            (.reg ((⟨(some 12), .indexSl 1 (.t 8) (.t 10), none⟩ : IOper) ::
              (⟨(some 13), .load none (.t 12), none⟩ : IOper) ::
              (⟨(some 4), .mov (.t 13), none⟩ : IOper) ::
              []))
            (.seq
             (.reg ((⟨(some 14), .mov (.t 4), none⟩ : IOper) ::
               (⟨(some 15), .bin .gtr (.t 14) (.c (.int .i64 0)), none⟩ : IOper) ::
               []))
             (.cond (.t 15)
              (.keep [2, 8, 9, 10]
              (.reg ((⟨(some 16), .mov (.t 2), none⟩ : IOper) ::
                (⟨(some 17), .bin .add (.t 16) (.c (.int .i64 1)), none⟩ : IOper) ::
                (⟨(some 2), .mov (.t 17), none⟩ : IOper) ::
                [])))
              .skip))))
          (.keep [2, 8, 9, 10]
          (.reg ((⟨(some 18), .bin .add (.t 10) (.c (.int .i64 1)), none⟩ : IOper) ::
            (⟨(some 10), .mov (.t 18), none⟩ : IOper) ::
            [])))))))))
    (.seq
     (.keep [2]
     (.reg ((⟨(some 19), .mov (.t 2), none⟩ : IOper) ::
       (⟨(some 2), .mov (.t 19), none⟩ : IOper) ::
       [])))
     .ret))))
def rd_row_Count : List RD := [.tmp 2 true none]
theorem ok_row_Count : fnOk Tryd.prog Tryd.f147 ir_row_Count rd_row_Count = true := by kernel_rfl
def S_row_Count : List AV → List Obj → Option (Prop × AV)
  | [.imm (.int .i64) w], [] => some ((True, .int .i64 (countW w)))
  | _, _ => none
theorem snd_row_Count : SoundS Tryd.prog 147 (RoF S_row_Count).sum := by
  refine ro_fn Tryd.func147 ok_row_Count (env_cons (s := RoF S_row_Right) snd_row_Right (env_nil _)) fun args objs p v e => ?_
  unfold S_row_Count at e
  split at e
  · rename_i w
    cases e
    refine ⟨rfl, fun hw ho hp => ?_⟩
    change List Int at w
    repeat' (intro t ht; first | (cases t <;> first | (cases ht; done) | ((try simp only [Bool.not_eq_eq_eq_not, Bool.not_true, Bool.not_false, Bool.and_eq_true, Bool.and_eq_false_iff, decide_eq_true_eq, decide_eq_false_iff_not] at ht); (try simp only [Int.toNat_natCast, dflt_int] at ht))) | (refine ht ?_ ?_ <;> clear ht) | (refine ht.1 ?_ ?_ <;> clear ht) | (refine ht ?_; clear ht))
    all_goals first
      | exact True.intro
      | (refine ⟨?_, rfl⟩; unfold countW; simp_all; done)
      | (intro r h1 h2; clear h1; refine h2 ⟨[2, 8, 9, 10], Nat, (fun i => i ≤ w.length), fun i => [.int .i64 (sumT oneI w i), .imm (.int .i64) w, .int .i64 w.length, .int .i64 i], fun _ => [], fun i => w.length - i, ⟨0, Nat.zero_le _, rfl, rfl⟩, ?_⟩; clear h2)
    intro i hi
    have hr : rightF w = true := by assumption
    have hl := (rightF_t.1 hr).1
    have hs := sumT_one hr i
    repeat' (intro t ht; first | (cases t <;> first | (cases ht; done) | ((try simp only [Bool.not_eq_eq_eq_not, Bool.not_true, Bool.not_false, Bool.and_eq_true, Bool.and_eq_false_iff, decide_eq_true_eq, decide_eq_false_iff_not] at ht); (try simp only [Int.toNat_natCast, dflt_int] at ht))) | (refine ht ?_ ?_ <;> clear ht) | (refine ht.1 ?_ ?_ <;> clear ht) | (refine ht ?_; clear ht))
    all_goals first
      | ((try simp only [Int.toNat_natCast, dflt_int, decide_eq_true_eq, decide_eq_false_iff_not, Bool.not_eq_eq_eq_not, Bool.not_true, Bool.not_false, Bool.and_eq_true, Bool.and_eq_false_iff, min_i64, max_i64, min_u64, max_u64, min_u32, max_u32, min_u16, max_u16, min_u8, max_u8] at *); omega)
      | (have hge : w.length ≤ i := by omega
         refine ⟨?_, rfl⟩; unfold countW; rw [if_pos hr, sumT_end oneI hge]; done)
      | (have hlt : i < w.length := by omega
         refine ⟨i + 1, hlt, by (try simp only [Int.toNat_natCast, dflt_int, decide_eq_true_eq, decide_eq_false_iff_not, Bool.not_eq_eq_eq_not, Bool.not_true, Bool.not_false, Bool.and_eq_true, Bool.and_eq_false_iff, min_i64, max_i64, min_u64, max_u64, min_u32, max_u32, min_u16, max_u16, min_u8, max_u8] at *); omega, ?_, rfl⟩
         dsimp only
         rw [sumT_step oneI hlt]
         first
           | (have e : oneI (w.getD i 0) = 1 := if_pos (by assumption)
              rw [e]; rfl)
           | (have e : oneI (w.getD i 0) = 0 := if_neg (by assumption)
              rw [e, Int.add_zero]; rfl))
      | trace_state
  · cases e
end Go.Eng
