/- Contracts of functions of the given program, told by plain Lean functions. No condition. -/
import Derived.Test.YtgljcfbcdniffaaDoorProg
import Derived.Test.YtgljcfbcdniffaaDoorESum
import Derived.KernelRfl
import Derived.Test.YtgljcfbcdniffaaDoorR7
namespace Go.Eng
open Go.Proofs
set_option linter.unusedVariables false
set_option linter.unusedSimpArgs false
set_option maxRecDepth 100000
set_option maxHeartbeats 1000000
abbrev P8 := Int × Int × Int × Int × Int × Int × Int × Int × Unit
abbrev PV := Int × Int × List Int × P8 × Unit
instance : DecidableEq (Int × Int × Int × Int × Unit) := inferInstance
instance : DecidableEq P8 := inferInstance
instance : DecidableEq PV := inferInstance
theorem all_take {α : Type} {f : α → Bool} {l : List α} {i : Nat} {d : α} (h : i < l.length) (ht : (l.take i).all f = true) (hd : f (l.getD i d) = true) : (l.take (i + 1)).all f = true := by
  rw [List.take_succ_eq_append_getElem h, List.all_append, ht, Bool.true_and, List.all_cons, List.all_nil, Bool.and_true]
  rwa [List.getD_eq_getElem?_getD, List.getElem?_eq_getElem h] at hd
theorem all_end {α : Type} {f : α → Bool} {l : List α} {i : Nat} (h : l.length ≤ i) (ht : (l.take i).all f = true) : l.all f = true := by
  rwa [List.take_of_length_le h] at ht
theorem all_no {α : Type} {f : α → Bool} {l : List α} {i : Nat} {d : α} (h : i < l.length) (hd : f (l.getD i d) = false) : l.all f = false := by
  rw [List.all_eq_false]
  refine ⟨l.getD i d, getD_mem' h d, ?_⟩
  rw [hd]; decide
def fewP (l : List PV) : Bool := decide (l.length ≤ 40) && l.all fun p => decide (p.2.2.1.length ≤ 100)
def ir_r19_Few : IR :=
 (.seq
  (.keep [0]
  (.reg ((⟨(some 2), .mov (.c (.kb false)), none⟩ : IOper) ::
    [])))
  (.seq
   (.seq
    (.reg ((⟨(some 3), .mov (.c (.int .i64 0)), none⟩ : IOper) ::
      []))
    (.block 0
     (.loop
      (.seq
       (.seq
        (.keep [0, 3]
        (.reg ((⟨(some 4), .mov (.t 3), none⟩ : IOper) ::
          (⟨(some 5), .mov (.t 0), none⟩ : IOper) ::
          (⟨(some 6), .len (.t 5), none⟩ : IOper) ::
          (⟨(some 7), .bin .lss (.t 4) (.t 6), none⟩ : IOper) ::
          [])))
        (.cond (.t 7)
         .skip
         (.exit 0)))
       (.seq
        (.block 1
         (.seq
          (.keep [0, 3]
          (.reg ((⟨(some 10), .mov (.t 0), none⟩ : IOper) ::
            (⟨(some 11), .mov (.t 3), none⟩ : IOper) ::
            (⟨(some 12), .indexSl 11 (.t 10) (.t 11), none⟩ : IOper) ::
            (⟨(some 13), .fieldAddr 2 (.t 12), none⟩ : IOper) ::
            (⟨(some 14), .load none (.t 13), none⟩ : IOper) ::
            (⟨(some 15), .slen (.t 14), none⟩ : IOper) ::
            (⟨(some 16), .bin .gtr (.t 15) (.c (.int .i64 100)), none⟩ : IOper) ::
            [])))
          (.cond (.t 16)
           (.seq
            (.keep []
            (.reg ((⟨(some 2), .mov (.c (.kb false)), none⟩ : IOper) ::
              [])))
            .ret)
           .skip)))
        (.keep [0, 3]
        (.reg ((⟨(some 8), .mov (.t 3), none⟩ : IOper) ::
          (⟨(some 9), .bin .add (.t 8) (.c (.int .i64 1)), none⟩ : IOper) ::
          (⟨(some 3), .mov (.t 9), none⟩ : IOper) ::
          []))))))))
   (.seq
    (.keep [0]
    (.reg ((⟨(some 17), .mov (.t 0), none⟩ : IOper) ::
      (⟨(some 18), .len (.t 17), none⟩ : IOper) ::
      (⟨(some 19), .bin .leq (.t 18) (.c (.int .i64 40)), none⟩ : IOper) ::
      (⟨(some 2), .mov (.t 19), none⟩ : IOper) ::
      [])))
    .ret)))
def rd_r19_Few : List RD := [.tmp 2 true none]
theorem ok_r19_Few : fnOk Tryd.prog Tryd.f27 ir_r19_Few rd_r19_Few = true := by kernel_rfl
def S_r19_Few : List AV → List Obj → Option (Prop × AV)
  | [.imm (.cons (.int .u64) (.cons (.int .u64) (.cons .str (.cons (.cons (.int .u64) (.cons (.int .u64) (.cons (.int .u64) (.cons (.int .u64) (.cons (.int .u64) (.cons (.int .u64) (.cons (.int .u64) (.cons (.int .u64) .nil)))))))) .nil)))) l], [] => some ((True, .bool (fewP l)))
  | _, _ => none
theorem snd_r19_Few : SoundS Tryd.prog 27 (RoF S_r19_Few).sum := by
  refine ro_fn Tryd.func27 ok_r19_Few (env_nil _) fun args objs p v e => ?_
  unfold S_r19_Few at e
  split at e
  · rename_i l
    cases e
    refine ⟨rfl, fun hw ho hp => ?_⟩
    change List PV at l
    have hl : l.length ≤ maxLen := (hw (.imm (.cons (.int .u64) (.cons (.int .u64) (.cons .str (.cons (.cons (.int .u64) (.cons (.int .u64) (.cons (.int .u64) (.cons (.int .u64) (.cons (.int .u64) (.cons (.int .u64) (.cons (.int .u64) (.cons (.int .u64) .nil)))))))) .nil)))) l) (by simp)).2
    unfold maxLen at hl
    clear hw ho
    repeat' (intro t ht; first | (cases t <;> first | (cases ht; done) | ((try simp only [Bool.not_eq_eq_eq_not, Bool.not_true, Bool.not_false, Bool.and_eq_true, Bool.and_eq_false_iff, decide_eq_true_eq, decide_eq_false_iff_not] at ht); (try simp only [Int.toNat_natCast, dflt_int] at ht))) | (refine ht ?_ ?_ <;> clear ht) | (refine ht.1 ?_ ?_ <;> clear ht) | (refine ht ?_; clear ht))
    all_goals first
      | (intro r h1 h2; clear h1; refine h2 ⟨[0, 3], Nat, (fun i => i ≤ l.length ∧ ((l.take i).all fun p => decide (p.2.2.1.length ≤ 100)) = true), fun i => [.imm (.cons (.int .u64) (.cons (.int .u64) (.cons .str (.cons (.cons (.int .u64) (.cons (.int .u64) (.cons (.int .u64) (.cons (.int .u64) (.cons (.int .u64) (.cons (.int .u64) (.cons (.int .u64) (.cons (.int .u64) .nil)))))))) .nil)))) l, .int .i64 i], fun _ => [], fun i => l.length - i, ⟨0, ⟨Nat.zero_le _, rfl⟩, rfl, rfl⟩, ?_⟩; clear h2)
    rintro i ⟨hi, he⟩
    repeat' (intro t ht; first | (cases t <;> first | (cases ht; done) | ((try simp only [Bool.not_eq_eq_eq_not, Bool.not_true, Bool.not_false, Bool.and_eq_true, Bool.and_eq_false_iff, decide_eq_true_eq, decide_eq_false_iff_not] at ht); (try simp only [Int.toNat_natCast, dflt_int] at ht); (try (exfalso; first | contradiction | omega)))) | (refine ht ?_ ?_ <;> clear ht) | (refine ht.1 ?_ ?_ <;> clear ht) | (refine ht ?_; clear ht))
    all_goals (try generalize (Ty.dflt (.cons (.int .u64) (.cons (.int .u64) (.cons .str (.cons (.cons (.int .u64) (.cons (.int .u64) (.cons (.int .u64) (.cons (.int .u64) (.cons (.int .u64) (.cons (.int .u64) (.cons (.int .u64) (.cons (.int .u64) .nil)))))))) .nil))))) = pd at *)
    all_goals first
      | ((try simp only [Int.toNat_natCast, dflt_int, decide_eq_true_eq, decide_eq_false_iff_not, Bool.not_eq_eq_eq_not, Bool.not_true, Bool.not_false, Bool.and_eq_true, Bool.and_eq_false_iff, min_i64, max_i64, min_u64, max_u64, min_u32, max_u32, min_u16, max_u16, min_u8, max_u8] at *); omega)
      | (have h := all_end (by omega) he
         refine ⟨?_, rfl⟩; unfold fewP; rw [h, Bool.and_true]; congr 1; exact decide_eq_decide.2 (by omega))
      | (have h : fewP l = false := by
           unfold fewP; rw [all_no (d := pd) (i := i) (by omega) (decide_eq_false (by omega)), Bool.and_false]
         refine ⟨?_, rfl⟩; rw [h]; done)
      | exact ⟨i + 1, ⟨by omega, all_take (d := pd) (by omega) he (decide_eq_true (by omega))⟩, by dsimp only; omega, rfl, rfl⟩
      | trace_state
  · cases e
def okc (lo c : Int) : Bool := decide (lo ≤ c) && decide (c ≤ 126)
theorem okc_t {lo c : Int} : okc lo c = true ↔ lo ≤ c ∧ c ≤ 126 := by unfold okc; simp
theorem okc_f {lo c : Int} : okc lo c = false ↔ (c < lo ∨ 126 < c) := by unfold okc; simp; omega
/-- The first byte that may not be; -1: there is none. -/
def oddA (lo : Int) : List Int → Int → Int
  | [], _ => -1
  | c :: r, i => if okc lo c = true then oddA lo r (i + 1) else i
theorem oddA_ok {lo : Int} {s : List Int} {p : Nat} (h : p < s.length) (hk : okc lo (s.getD p 0) = true) : oddA lo (s.drop p) p = oddA lo (s.drop (p + 1)) ((p + 1 : Nat) : Int) := by
  rw [drop_step h 0]; exact if_pos hk
theorem oddA_no {lo : Int} {s : List Int} {p : Nat} (h : p < s.length) (hk : okc lo (s.getD p 0) = false) : oddA lo (s.drop p) p = p := by
  rw [drop_step h 0]; exact if_neg (by rw [hk]; decide)
theorem oddA_end {lo : Int} {s : List Int} {p : Nat} (h : s.length ≤ p) : oddA lo (s.drop p) p = -1 := by
  rw [List.drop_of_length_le h]; rfl
theorem oddA_sgn {lo : Int} : ∀ (s : List Int) (i : Int), 0 ≤ i → (0 ≤ oddA lo s i ↔ s.all (okc lo) = false)
  | [], i, h => by simp [oddA]
  | c :: r, i, h => by
    unfold oddA
    cases hk : okc lo c with
    | true =>
      rw [if_pos rfl, oddA_sgn r (i + 1) (by omega), List.all_cons, hk, Bool.true_and]
    | false =>
      rw [if_neg (by decide), List.all_cons, hk, Bool.false_and]
      simp [h]
theorem oddA_le {lo : Int} : ∀ (s : List Int) (i : Int), 0 ≤ i → -1 ≤ oddA lo s i
  | [], i, h => by simp [oddA]
  | c :: r, i, h => by
    unfold oddA; split
    · exact oddA_le r (i + 1) (by omega)
    · omega
theorem runeL_lo {s : List Int} {p : Nat} (h : (s.getD p 0).toNat < 128) : runeL s p = ((s.getD p 0).toNat, 1) := by
  unfold runeL; simp only [Nat.add_zero]; rw [if_pos (by omega)]
theorem runeL_hi {s : List Int} {p : Nat} (h : ¬ (s.getD p 0).toNat < 128) : 128 ≤ (runeL s p).1 := by
  unfold runeL; simp only [Nat.add_zero]; rw [if_neg (by omega)]
  have e : 128 ≤ Utf8.runeError := by decide
  repeat' (first | split | assumption)
  all_goals (try simp only [Bool.and_eq_true, decide_eq_true_eq, beq_iff_eq] at *)
  all_goals omega
theorem runeL_le {s : List Int} {p : Nat} : (runeL s p).1 < 2097152 := by
  unfold runeL; simp only [Nat.add_zero]
  have e : Utf8.runeError < 2097152 := by decide
  repeat' (first | split | assumption)
  all_goals (rename_i h; try simp only [Bool.and_eq_true, beq_iff_eq] at *)
  all_goals (first | omega | (dsimp only; omega))
theorem rune_okc {lo : Int} {s : List Int} {p : Nat} (hx : 0 ≤ s.getD p 0) : okc lo (runeL s p).1 = okc lo (s.getD p 0) ∧ (okc lo (s.getD p 0) = true → (runeL s p).2 = 1) := by
  by_cases h : (s.getD p 0).toNat < 128
  · rw [runeL_lo h]
    have e : ((s.getD p 0).toNat : Int) = s.getD p 0 := by omega
    dsimp only; rw [e]; exact ⟨rfl, fun _ => rfl⟩
  · have h1 := runeL_hi h
    have h2 : okc lo (runeL s p).1 = false := okc_f.2 (by omega)
    have h3 : okc lo (s.getD p 0) = false := okc_f.2 (by omega)
    rw [h2, h3]; exact ⟨rfl, fun h => by cases h⟩
def ir_port_Name_1 : IR :=
 (.seq
  (.keep [0]
  (.reg ((⟨(some 2), .mov (.c (.kb false)), none⟩ : IOper) ::
    [])))
  (.seq
   (.keep [0]
   (.reg ((⟨(some 3), .mov (.t 0), none⟩ : IOper) ::
     (⟨(some 4), .bin .leq (.t 3) (.c (.int .i32 32)), none⟩ : IOper) ::
     (⟨(some 5), .mov (.t 4), none⟩ : IOper) ::
     (⟨(some 6), .mov (.t 0), (some (5, false))⟩ : IOper) ::
     (⟨(some 7), .bin .gtr (.t 6) (.c (.int .i32 126)), (some (5, false))⟩ : IOper) ::
     (⟨(some 8), .pick (.t 5) (.c (.kb true)) (.t 7), none⟩ : IOper) ::
     (⟨(some 2), .mov (.t 8), none⟩ : IOper) ::
     [])))
   .ret))
def rd_port_Name_1 : List RD := [.tmp 2 true none]
theorem ok_port_Name_1 : fnOk Tryd.prog Tryd.f57 ir_port_Name_1 rd_port_Name_1 = true := by kernel_rfl
def S_port_Name_1 : List AV → List Obj → Option (Prop × AV)
  | [.int .i32 c], [] => some ((True, .bool (!okc 33 c)))
  | _, _ => none
theorem snd_port_Name_1 : SoundS Tryd.prog 57 (RoF S_port_Name_1).sum := by
  refine ro_fn Tryd.func57 ok_port_Name_1 (env_nil _) fun args objs p v e => ?_
  unfold S_port_Name_1 at e
  split at e
  · rename_i c
    cases e
    refine ⟨rfl, fun hw ho hp => ?_⟩
    repeat' (intro t ht; first | (cases t <;> first | (cases ht; done) | ((try simp only [Bool.not_eq_eq_eq_not, Bool.not_true, Bool.not_false, Bool.and_eq_true, Bool.and_eq_false_iff, decide_eq_true_eq, decide_eq_false_iff_not] at ht); (try simp only [Int.toNat_natCast, dflt_int] at ht))) | (refine ht ?_ ?_ <;> clear ht) | (refine ht.1 ?_ ?_ <;> clear ht) | (refine ht ?_; clear ht))
    all_goals first
      | (have h : okc 33 c = false := okc_f.2 (by omega)
         refine ⟨?_, rfl⟩; rw [h]; rfl)
      | (refine ⟨?_, rfl⟩; unfold okc; rw [decide_eq_true (show (33 : Int) ≤ c by omega), Bool.true_and]; congr 1; rw [← decide_not]; congr 1; exact propext (by omega))
      | trace_state
  · cases e
def ir_strings_indexFunc : IR :=
 (.seq
  (.keep [0, 1, 2]
  (.reg ((⟨(some 6), .mov (.c (.int .i64 0)), none⟩ : IOper) ::
    [])))
  (.seq
   (.seq
    (.reg ((⟨(some 9), .mov (.t 0), none⟩ : IOper) ::
      (⟨(some 10), .rngs (.t 9), none⟩ : IOper) ::
      []))
    (.block 0
     (.loop
      (.seq
       (.keep [1, 2, 10]
       (.reg ((⟨(some 11), .nxts (.t 10), none⟩ : IOper) ::
         (⟨(some 12), .extract (.t 11) 0, none⟩ : IOper) ::
         [])))
       (.seq
        (.cond (.t 12)
         .skip
         (.exit 0))
        (.block 1
         (.seq
          (.reg ((⟨(some 13), .extract (.t 11) 1, none⟩ : IOper) ::
            (⟨(some 14), .extract (.t 11) 2, none⟩ : IOper) ::
            (⟨(some 7), .mov (.t 13), none⟩ : IOper) ::
            (⟨(some 8), .mov (.t 14), none⟩ : IOper) ::
            []))
          (.seq
           (.keep [1, 2, 7, 8, 10]
           (.reg ((⟨(some 15), .mov (.t 1), none⟩ : IOper) ::
             (⟨(some 16), .mov (.t 8), none⟩ : IOper) ::
             (⟨(some 17), .call false (.t 15) [(.t 16)], none⟩ : IOper) ::
             (⟨(some 18), .mov (.t 2), none⟩ : IOper) ::
             (⟨(some 19), .eqb false (.t 17) (.t 18), none⟩ : IOper) ::
             [])))
           (.cond (.t 19)
            (.seq
             (.reg ((⟨(some 20), .mov (.t 7), none⟩ : IOper) ::
               (⟨(some 6), .mov (.t 20), none⟩ : IOper) ::
               []))
             .ret)
            .skip)))))))))
   (.seq
    (.keep []
    (.reg ((⟨(some 6), .mov (.c (.int .i64 (-1))), none⟩ : IOper) ::
      [])))
    .ret)))
def rd_strings_indexFunc : List RD := [.tmp 6 true none]
theorem ok_strings_indexFunc : fnOk Tryd.prog Tryd.f132 ir_strings_indexFunc rd_strings_indexFunc = true := by kernel_rfl
def S_strings_indexFunc : List AV → List Obj → Option (Prop × AV)
  | [.str s, .fn 57 [] [], .bool t], [] => some ((t = true, .int .i64 (oddA 33 s 0)))
  | _, _ => none
theorem snd_strings_indexFunc : SoundS Tryd.prog 132 (RoF S_strings_indexFunc).sum := by
  refine ro_fn Tryd.func132 ok_strings_indexFunc (env_cons (s := RoF S_port_Name_1) snd_port_Name_1 (env_nil _)) fun args objs p v e => ?_
  unfold S_strings_indexFunc at e
  split at e
  · rename_i s t
    cases e
    refine ⟨rfl, fun hw ho hp => ?_⟩
    obtain ⟨hb, hl⟩ : (∀ x ∈ s, 0 ≤ x ∧ x ≤ 255) ∧ s.length ≤ maxLen := hw (.str s) (by simp)
    subst hp
    unfold maxLen at hl
    clear hw ho
    repeat' (intro t ht; first | (cases t <;> first | (cases ht; done) | ((try simp only [Bool.not_eq_eq_eq_not, Bool.not_true, Bool.not_false, Bool.and_eq_true, Bool.and_eq_false_iff, decide_eq_true_eq, decide_eq_false_iff_not] at ht); (try simp only [Int.toNat_natCast, dflt_int] at ht))) | (refine ht ?_ ?_ <;> clear ht) | (refine ht.1 ?_ ?_ <;> clear ht) | (refine ht ?_; clear ht))
    all_goals first
      | (intro r h1 h2; clear h1; refine h2 ⟨[1, 2, 10], Nat, (fun p => p ≤ s.length ∧ oddA 33 s 0 = oddA 33 (s.drop p) p), fun p => [.fn 57 [] [], .bool true, .ptr 0 0], fun p => [.iter s p], fun p => s.length - p, ⟨0, ⟨Nat.zero_le _, rfl⟩, rfl, rfl⟩, ?_⟩; clear h2)
    rintro p ⟨hp, he⟩
    repeat' (intro t ht; first | (cases t <;> first | (cases ht; done) | ((try simp only [Bool.not_eq_eq_eq_not, Bool.not_true, Bool.not_false, Bool.and_eq_true, Bool.and_eq_false_iff, decide_eq_true_eq, decide_eq_false_iff_not] at ht); (try simp only [Int.toNat_natCast, dflt_int] at ht); (try (exfalso; first | contradiction | omega)))) | (refine ht ?_ ?_ <;> clear ht) | (refine ht.1 ?_ ?_ <;> clear ht) | (refine ht ?_; clear ht))
    all_goals first
      | exact True.intro
      | (refine ⟨?_, rfl⟩; rw [he, oddA_end (by omega)]; done)
      | (obtain ⟨k1, k2⟩ := rune_okc (lo := 33) (hb _ (getD_mem' (α := Int) (l := s) (j := p) (by omega) 0)).1
         cases hk : okc 33 (s.getD p 0) with
         | true =>
           rw [k1, hk] at ht
           first
             | (exfalso; revert ht; decide)
             | (refine ⟨p + 1, ⟨by omega, ?_⟩, by dsimp only; omega, rfl, by rw [k2 hk]⟩
                rw [he]; exact oddA_ok (by omega) hk)
         | false =>
           rw [k1, hk] at ht
           first
             | (exfalso; revert ht; decide)
             | (refine ⟨?_, rfl⟩; rw [he, oddA_no (by omega) hk]))
      | trace_state
  · cases e
def ir_strings_IndexFunc : IR :=
 (.seq
  (.keep [0, 1]
  (.reg ((⟨(some 4), .mov (.c (.int .i64 0)), none⟩ : IOper) ::
    [])))
  (.seq
   (.reg ((⟨(some 5), .mov (.t 0), none⟩ : IOper) ::
     (⟨(some 6), .mov (.t 1), none⟩ : IOper) ::
     (⟨(some 7), .call false (.f 132) [(.t 5), (.t 6), (.c (.kb true))], none⟩ : IOper) ::
     (⟨(some 4), .mov (.t 7), none⟩ : IOper) ::
     []))
   .ret))
def rd_strings_IndexFunc : List RD := [.tmp 4 true none]
theorem ok_strings_IndexFunc : fnOk Tryd.prog Tryd.f95 ir_strings_IndexFunc rd_strings_IndexFunc = true := by kernel_rfl
def S_strings_IndexFunc : List AV → List Obj → Option (Prop × AV)
  | [.str s, .fn 57 [] []], [] => some ((True, .int .i64 (oddA 33 s 0)))
  | _, _ => none
theorem snd_strings_IndexFunc : SoundS Tryd.prog 95 (RoF S_strings_IndexFunc).sum := by
  refine ro_fn Tryd.func95 ok_strings_IndexFunc (env_cons (s := RoF S_strings_indexFunc) snd_strings_indexFunc (env_nil _)) fun args objs p v e => ?_
  unfold S_strings_IndexFunc at e
  split at e
  · rename_i s
    cases e
    refine ⟨rfl, fun hw ho hp => ?_⟩
    repeat' (intro t ht; first | (cases t <;> first | (cases ht; done) | ((try simp only [Bool.not_eq_eq_eq_not, Bool.not_true, Bool.not_false, Bool.and_eq_true, Bool.and_eq_false_iff, decide_eq_true_eq, decide_eq_false_iff_not] at ht); (try simp only [Int.toNat_natCast, dflt_int] at ht); (try (exfalso; first | contradiction | omega)))) | (refine ht ?_ ?_ <;> clear ht) | (refine ht.1 ?_ ?_ <;> clear ht) | (refine ht ?_; clear ht))
    all_goals first
      | exact True.intro
      | exact ⟨rfl, rfl⟩
      | exact rfl
  · cases e
def ir_strings_ContainsFunc : IR :=
 (.seq
  (.keep [0, 1]
  (.reg ((⟨(some 4), .mov (.c (.kb false)), none⟩ : IOper) ::
    [])))
  (.seq
   (.keep [0, 1]
   (.reg ((⟨(some 5), .mov (.t 0), none⟩ : IOper) ::
     (⟨(some 6), .mov (.t 1), none⟩ : IOper) ::
     (⟨(some 7), .call false (.f 95) [(.t 5), (.t 6)], none⟩ : IOper) ::
     (⟨(some 8), .bin .geq (.t 7) (.c (.int .i64 0)), none⟩ : IOper) ::
     (⟨(some 4), .mov (.t 8), none⟩ : IOper) ::
     [])))
   .ret))
def rd_strings_ContainsFunc : List RD := [.tmp 4 true none]
theorem ok_strings_ContainsFunc : fnOk Tryd.prog Tryd.f58 ir_strings_ContainsFunc rd_strings_ContainsFunc = true := by kernel_rfl
def S_strings_ContainsFunc : List AV → List Obj → Option (Prop × AV)
  | [.str s, .fn 57 [] []], [] => some ((True, .bool (!(s.all (okc 33)))))
  | _, _ => none
theorem snd_strings_ContainsFunc : SoundS Tryd.prog 58 (RoF S_strings_ContainsFunc).sum := by
  refine ro_fn Tryd.func58 ok_strings_ContainsFunc (env_cons (s := RoF S_strings_IndexFunc) snd_strings_IndexFunc (env_nil _)) fun args objs p v e => ?_
  unfold S_strings_ContainsFunc at e
  split at e
  · rename_i s
    cases e
    refine ⟨rfl, fun hw ho hp => ?_⟩
    have h := oddA_sgn (lo := 33) s 0 (by omega)
    have h2 : decide (0 ≤ oddA 33 s 0) = !(s.all (okc 33)) := by
      cases hk : s.all (okc 33) with
      | true => exact decide_eq_false (fun h' => by rw [h.1 h'] at hk; cases hk)
      | false => exact decide_eq_true (h.2 hk)
    repeat' (intro t ht; first | (cases t <;> first | (cases ht; done) | ((try simp only [Bool.not_eq_eq_eq_not, Bool.not_true, Bool.not_false, Bool.and_eq_true, Bool.and_eq_false_iff, decide_eq_true_eq, decide_eq_false_iff_not] at ht); (try simp only [Int.toNat_natCast, dflt_int] at ht); (try (exfalso; first | contradiction | omega)))) | (refine ht ?_ ?_ <;> clear ht) | (refine ht.1 ?_ ?_ <;> clear ht) | (refine ht ?_; clear ht))
    all_goals first
      | exact True.intro
      | exact ⟨congrArg AV.bool h2, rfl⟩
  · cases e
/-- Is a text a port's name? -/
def nameF (s : List Int) : Bool := decide (s.length < 16) && s.all (okc 33)
theorem nameF_t {s : List Int} : nameF s = true ↔ s.length < 16 ∧ ∀ c ∈ s, okc 33 c = true := by unfold nameF; simp only [Bool.and_eq_true, decide_eq_true_eq, List.all_eq_true]
def ir_port_Name : IR :=
 (.seq
  (.keep [0]
  (.reg ((⟨(some 2), .mov (.c (.kb false)), none⟩ : IOper) ::
    [])))
  (.seq
   (.reg ((⟨(some 3), .mov (.f 57), none⟩ : IOper) ::
     []))
   (.seq
    (.keep [0, 3]
    (.reg ((⟨(some 4), .mov (.t 0), none⟩ : IOper) ::
      (⟨(some 5), .slen (.t 4), none⟩ : IOper) ::
      (⟨(some 6), .bin .lss (.t 5) (.c (.int .i64 16)), none⟩ : IOper) ::
      (⟨(some 7), .mov (.t 6), none⟩ : IOper) ::
      (⟨(some 8), .mov (.t 0), (some (7, true))⟩ : IOper) ::
      (⟨(some 9), .mov (.t 3), (some (7, true))⟩ : IOper) ::
      (⟨(some 10), .call false (.f 58) [(.t 8), (.t 9)], (some (7, true))⟩ : IOper) ::
      (⟨(some 11), .un .not (.t 10), (some (7, true))⟩ : IOper) ::
      (⟨(some 12), .pick (.t 7) (.t 11) (.c (.kb false)), none⟩ : IOper) ::
      (⟨(some 2), .mov (.t 12), none⟩ : IOper) ::
      [])))
    .ret)))
def rd_port_Name : List RD := [.tmp 2 true none]
theorem ok_port_Name : fnOk Tryd.prog Tryd.f25 ir_port_Name rd_port_Name = true := by kernel_rfl
def S_port_Name : List AV → List Obj → Option (Prop × AV)
  | [.str s], [] => some ((True, .bool (nameF s)))
  | _, _ => none
theorem snd_port_Name : SoundS Tryd.prog 25 (RoF S_port_Name).sum := by
  refine ro_fn Tryd.func25 ok_port_Name (env_cons (s := RoF S_port_Name_1) snd_port_Name_1 (env_cons (s := RoF S_strings_ContainsFunc) snd_strings_ContainsFunc (env_nil _))) fun args objs p v e => ?_
  unfold S_port_Name at e
  split at e
  · rename_i s
    cases e
    refine ⟨rfl, fun hw ho hp => ?_⟩
    repeat' (intro t ht; first | (cases t <;> first | (cases ht; done) | ((try simp only [Bool.not_eq_eq_eq_not, Bool.not_true, Bool.not_false, Bool.and_eq_true, Bool.and_eq_false_iff, decide_eq_true_eq, decide_eq_false_iff_not] at ht); (try simp only [Int.toNat_natCast, dflt_int] at ht); (try (exfalso; first | contradiction | omega)))) | (refine ht ?_ ?_ <;> clear ht) | (refine ht.1 ?_ ?_ <;> clear ht) | (refine ht ?_; clear ht))
    all_goals first
      | exact True.intro
      | (refine ⟨?_, rfl⟩; unfold nameF; rw [decide_eq_true (by omega)]; simp; done)
      | (refine ⟨?_, rfl⟩; unfold nameF; rw [decide_eq_false (by omega)]; rfl)
      | trace_state
  · cases e
def ir_r19_Name : IR :=
 (.seq
  (.keep [0]
  (.reg ((⟨(some 2), .mov (.c (.kb false)), none⟩ : IOper) ::
    [])))
  (.seq
   (.seq
    (.reg ((⟨(some 3), .mov (.c (.int .i64 0)), none⟩ : IOper) ::
      []))
    (.block 0
     (.loop
      (.seq
       (.seq
        (.keep [0, 3]
        (.reg ((⟨(some 4), .mov (.t 3), none⟩ : IOper) ::
          (⟨(some 5), .mov (.t 0), none⟩ : IOper) ::
          (⟨(some 6), .slen (.t 5), none⟩ : IOper) ::
          (⟨(some 7), .bin .lss (.t 4) (.t 6), none⟩ : IOper) ::
          [])))
        (.cond (.t 7)
         .skip
         (.exit 0)))
       (.seq
        (.block 1
         (.seq
          (.keep [0, 3]
          (.reg ((⟨(some 10), .mov (.t 0), none⟩ : IOper) ::
            (⟨(some 11), .mov (.t 3), none⟩ : IOper) ::
            (⟨(some 12), .sindex (.t 10) (.t 11), none⟩ : IOper) ::
            (⟨(some 13), .bin .lss (.t 12) (.c (.int .u8 33)), none⟩ : IOper) ::
            (⟨(some 14), .mov (.t 13), none⟩ : IOper) ::
            (⟨(some 15), .mov (.t 0), (some (14, false))⟩ : IOper) ::
            (⟨(some 16), .mov (.t 3), (some (14, false))⟩ : IOper) ::
            (⟨(some 17), .sindex (.t 15) (.t 16), (some (14, false))⟩ : IOper) ::
            (⟨(some 18), .bin .gtr (.t 17) (.c (.int .u8 126)), (some (14, false))⟩ : IOper) ::
            (⟨(some 19), .pick (.t 14) (.c (.kb true)) (.t 18), none⟩ : IOper) ::
            [])))
          (.cond (.t 19)
           (.seq
            (.keep []
            (.reg ((⟨(some 2), .mov (.c (.kb false)), none⟩ : IOper) ::
              [])))
            .ret)
           .skip)))
        (.keep [0, 3]
        (.reg ((⟨(some 8), .mov (.t 3), none⟩ : IOper) ::
          (⟨(some 9), .bin .add (.t 8) (.c (.int .i64 1)), none⟩ : IOper) ::
          (⟨(some 3), .mov (.t 9), none⟩ : IOper) ::
          []))))))))
   (.seq
    (.keep [0]
    (.reg ((⟨(some 20), .mov (.t 0), none⟩ : IOper) ::
      (⟨(some 21), .slen (.t 20), none⟩ : IOper) ::
      (⟨(some 22), .bin .leq (.t 21) (.c (.int .i64 15)), none⟩ : IOper) ::
      (⟨(some 2), .mov (.t 22), none⟩ : IOper) ::
      [])))
    .ret)))
def rd_r19_Name : List RD := [.tmp 2 true none]
theorem ok_r19_Name : fnOk Tryd.prog Tryd.f26 ir_r19_Name rd_r19_Name = true := by kernel_rfl
def S_r19_Name : List AV → List Obj → Option (Prop × AV)
  | [.str s], [] => some ((True, .bool (nameF s)))
  | _, _ => none
theorem snd_r19_Name : SoundS Tryd.prog 26 (RoF S_r19_Name).sum := by
  refine ro_fn Tryd.func26 ok_r19_Name (env_nil _) fun args objs p v e => ?_
  unfold S_r19_Name at e
  split at e
  · rename_i s
    cases e
    refine ⟨rfl, fun hw ho hp => ?_⟩
    have hl : s.length ≤ maxLen := (hw (.str s) (by simp)).2
    unfold maxLen at hl
    clear hw ho
    repeat' (intro t ht; first | (cases t <;> first | (cases ht; done) | ((try simp only [Bool.not_eq_eq_eq_not, Bool.not_true, Bool.not_false, Bool.and_eq_true, Bool.and_eq_false_iff, decide_eq_true_eq, decide_eq_false_iff_not] at ht); (try simp only [Int.toNat_natCast, dflt_int] at ht))) | (refine ht ?_ ?_ <;> clear ht) | (refine ht.1 ?_ ?_ <;> clear ht) | (refine ht ?_; clear ht))
    all_goals first
      | (intro r h1 h2; clear h1; refine h2 ⟨[0, 3], Nat, (fun i => i ≤ s.length ∧ (s.take i).all (okc 33) = true), fun i => [.str s, .int .i64 i], fun _ => [], fun i => s.length - i, ⟨0, ⟨Nat.zero_le _, rfl⟩, rfl, rfl⟩, ?_⟩; clear h2)
    rintro i ⟨hi, he⟩
    repeat' (intro t ht; first | (cases t <;> first | (cases ht; done) | ((try simp only [Bool.not_eq_eq_eq_not, Bool.not_true, Bool.not_false, Bool.and_eq_true, Bool.and_eq_false_iff, decide_eq_true_eq, decide_eq_false_iff_not] at ht); (try simp only [Int.toNat_natCast, dflt_int] at ht); (try (exfalso; first | contradiction | omega)))) | (refine ht ?_ ?_ <;> clear ht) | (refine ht.1 ?_ ?_ <;> clear ht) | (refine ht ?_; clear ht))
    all_goals first
      | ((try simp only [Int.toNat_natCast, dflt_int, decide_eq_true_eq, decide_eq_false_iff_not, Bool.not_eq_eq_eq_not, Bool.not_true, Bool.not_false, Bool.and_eq_true, Bool.and_eq_false_iff, min_i64, max_i64, min_u64, max_u64, min_u32, max_u32, min_u16, max_u16, min_u8, max_u8] at *); omega)
      | (have h := all_end (by omega) he
         refine ⟨?_, rfl⟩; unfold nameF; rw [h, Bool.and_true]; congr 1; exact decide_eq_decide.2 (by omega))
      | (have h : nameF s = false := by
           unfold nameF; rw [all_no (d := 0) (i := i) (by omega) (okc_f.2 (by omega)), Bool.and_false]
         refine ⟨?_, rfl⟩; rw [h]; done)
      | exact ⟨i + 1, ⟨by omega, all_take (d := 0) (by omega) he (okc_t.2 (by omega))⟩, by dsimp only; omega, rfl, rfl⟩
      | trace_state
  · cases e
theorem eqP_eq (a b : PV) : (decide (a.1 = b.1) && (decide (a.2.1 = b.2.1) && (decide (a.2.2.1 = b.2.2.1) && (decide (a.2.2.2.1.1 = b.2.2.2.1.1) && (decide (a.2.2.2.1.2.1 = b.2.2.2.1.2.1) && (decide (a.2.2.2.1.2.2.1 = b.2.2.2.1.2.2.1) && (decide (a.2.2.2.1.2.2.2.1 = b.2.2.2.1.2.2.2.1) && (decide (a.2.2.2.1.2.2.2.2.1 = b.2.2.2.1.2.2.2.2.1) && (decide (a.2.2.2.1.2.2.2.2.2.1 = b.2.2.2.1.2.2.2.2.2.1) && (decide (a.2.2.2.1.2.2.2.2.2.2.1 = b.2.2.2.1.2.2.2.2.2.2.1) && (decide (a.2.2.2.1.2.2.2.2.2.2.2.1 = b.2.2.2.1.2.2.2.2.2.2.2.1) && true))))))))))) = decide (a = b) := by
  obtain ⟨a1, a2, a3, ⟨a4, a5, a6, a7, a8, a9, a10, a11, _⟩, _⟩ := a
  obtain ⟨b1, b2, b3, ⟨b4, b5, b6, b7, b8, b9, b10, b11, _⟩, _⟩ := b
  rw [Bool.eq_iff_iff]
  simp only [Bool.and_eq_true, decide_eq_true_eq, Prod.mk.injEq, and_true, and_assoc]
theorem eqP_and {a b : PV} (h : a.1 = b.1 ∧ a.2.1 = b.2.1 ∧ a.2.2.1 = b.2.2.1 ∧ a.2.2.2.1.1 = b.2.2.2.1.1 ∧ a.2.2.2.1.2.1 = b.2.2.2.1.2.1 ∧ a.2.2.2.1.2.2.1 = b.2.2.2.1.2.2.1 ∧ a.2.2.2.1.2.2.2.1 = b.2.2.2.1.2.2.2.1 ∧ a.2.2.2.1.2.2.2.2.1 = b.2.2.2.1.2.2.2.2.1 ∧ a.2.2.2.1.2.2.2.2.2.1 = b.2.2.2.1.2.2.2.2.2.1 ∧ a.2.2.2.1.2.2.2.2.2.2.1 = b.2.2.2.1.2.2.2.2.2.2.1 ∧ a.2.2.2.1.2.2.2.2.2.2.2.1 = b.2.2.2.1.2.2.2.2.2.2.2.1 ∧ True) : a = b := by
  obtain ⟨a1, a2, a3, ⟨a4, a5, a6, a7, a8, a9, a10, a11, _⟩, _⟩ := a
  obtain ⟨b1, b2, b3, ⟨b4, b5, b6, b7, b8, b9, b10, b11, _⟩, _⟩ := b
  simpa only [Prod.mk.injEq, and_true] using h
def ir_port_Same_1 : IR :=
 (.seq
  (.keep [0, 1]
  (.reg ((⟨(some 2), .boxv (.t 0), none⟩ : IOper) ::
    (⟨(some 3), .boxv (.t 1), none⟩ : IOper) ::
    (⟨(some 4), .mov (.c (.kb false)), none⟩ : IOper) ::
    [])))
  (.seq
   (.reg ((⟨(some 5), .load (some 11) (.t 2), none⟩ : IOper) ::
     (⟨(some 6), .load (some 11) (.t 3), none⟩ : IOper) ::
     (⟨(some 7), .eqs false [.int .u64, .int .u64, .str, .int .u64, .int .u64, .int .u64, .int .u64, .int .u64, .int .u64, .int .u64, .int .u64] (.t 5) (.t 6), none⟩ : IOper) ::
     (⟨(some 4), .mov (.t 7), none⟩ : IOper) ::
     []))
   .ret))
def rd_port_Same_1 : List RD := [.tmp 4 true none]
theorem ok_port_Same_1 : fnOk Tryd.prog Tryd.f65 ir_port_Same_1 rd_port_Same_1 = true := by kernel_rfl
def S_port_Same_1 : List AV → List Obj → Option (Prop × AV)
  | [.agg [.int .u64 a1, .int .u64 a2, .str a3, .int .u64 a4, .int .u64 a5, .int .u64 a6, .int .u64 a7, .int .u64 a8, .int .u64 a9, .int .u64 a10, .int .u64 a11], .agg [.int .u64 b1, .int .u64 b2, .str b3, .int .u64 b4, .int .u64 b5, .int .u64 b6, .int .u64 b7, .int .u64 b8, .int .u64 b9, .int .u64 b10, .int .u64 b11]], [] => some ((True, .bool (decide (((a1, a2, a3, (a4, a5, a6, a7, a8, a9, a10, a11, ()), ()) : PV) = (b1, b2, b3, (b4, b5, b6, b7, b8, b9, b10, b11, ()), ())))))
  | _, _ => none
theorem snd_port_Same_1 : SoundS Tryd.prog 65 (RoF S_port_Same_1).sum := by
  refine ro_fn Tryd.func65 ok_port_Same_1 (env_nil _) fun args objs p v e => ?_
  unfold S_port_Same_1 at e
  split at e
  · rename_i a1 a2 a3 a4 a5 a6 a7 a8 a9 a10 a11 b1 b2 b3 b4 b5 b6 b7 b8 b9 b10 b11
    cases e
    refine ⟨rfl, fun hw ho hp => ?_⟩
    repeat' (intro t ht; first | (cases t <;> first | (cases ht; done) | ((try simp only [Bool.not_eq_eq_eq_not, Bool.not_true, Bool.not_false, Bool.and_eq_true, Bool.and_eq_false_iff, decide_eq_true_eq, decide_eq_false_iff_not] at ht); (try simp only [Int.toNat_natCast, dflt_int] at ht); (try (exfalso; first | contradiction | omega)))) | (refine ht ?_ ?_ <;> clear ht) | (refine ht.1 ?_ ?_ <;> clear ht) | (refine ht ?_; clear ht))
    all_goals exact ⟨congrArg AV.bool (eqP_eq (a1, a2, a3, (a4, a5, a6, a7, a8, a9, a10, a11, ()), ()) (b1, b2, b3, (b4, b5, b6, b7, b8, b9, b10, b11, ()), ())), rfl⟩
  · cases e
def ir_slices_EqualFunc_api_Port_api_Port_api_Port_api_Port : IR :=
 (.seq
  (.keep [0, 1, 2]
  (.reg ((⟨(some 6), .mov (.c (.kb false)), none⟩ : IOper) ::
    [])))
  (.seq
   (.seq
    (.keep [0, 1, 2]
    (.reg ((⟨(some 10), .mov (.t 0), none⟩ : IOper) ::
      (⟨(some 11), .len (.t 10), none⟩ : IOper) ::
      (⟨(some 12), .mov (.t 1), none⟩ : IOper) ::
      (⟨(some 13), .len (.t 12), none⟩ : IOper) ::
      (⟨(some 14), .bin .neq (.t 11) (.t 13), none⟩ : IOper) ::
      [])))
    (.cond (.t 14)
     (.seq
      (.reg ((⟨(some 6), .mov (.c (.kb false)), none⟩ : IOper) ::
        []))
      .ret)
     .skip))
   (.seq
    (.seq
     (.keep [0, 1, 2]
     (.reg ((⟨(some 15), .mov (.t 0), none⟩ : IOper) ::
       (⟨(some 16), .len (.t 15), none⟩ : IOper) ::
       (⟨(some 17), .mov (.c (.int .i64 0)), none⟩ : IOper) ::
       [])))
     (.block 0
      (.loop
       (.seq
        (.keep [1, 2, 15, 16, 17]
        (.reg ((⟨(some 18), .bin .lss (.t 17) (.t 16), none⟩ : IOper) ::
          [])))
        (.seq
         (.cond (.t 18)
          .skip
          (.exit 0))
         (.seq
          (.block 1
           (.seq
            (.keep [1, 2, 15, 16, 17]
            (.reg ((⟨(some 19), .mov (.t 17), none⟩ : IOper) ::
              (⟨(some 20), .indexSl 11 (.t 15) (.t 17), none⟩ : IOper) ::
              (⟨(some 21), .load (some 11) (.t 20), none⟩ : IOper) ::
              (⟨(some 8), .box [.int .u64 0, .int .u64 0, .str [], .int .u64 0, .int .u64 0, .int .u64 0, .int .u64 0, .int .u64 0, .int .u64 0, .int .u64 0, .int .u64 0], none⟩ : IOper) ::
              (⟨(some 7), .mov (.t 19), none⟩ : IOper) ::
              (⟨none, .store 11 (.t 8) (.t 21), none⟩ : IOper) ::
              [])))
            (.seq
             (.keep [1, 2, 7, 8, 15, 16, 17]
             (.reg ((⟨(some 22), .mov (.t 1), none⟩ : IOper) ::
               (⟨(some 23), .mov (.t 7), none⟩ : IOper) ::
               (⟨(some 24), .indexSl 11 (.t 22) (.t 23), none⟩ : IOper) ::
               (⟨(some 25), .load (some 11) (.t 24), none⟩ : IOper) ::
               (⟨(some 9), .box [.int .u64 0, .int .u64 0, .str [], .int .u64 0, .int .u64 0, .int .u64 0, .int .u64 0, .int .u64 0, .int .u64 0, .int .u64 0, .int .u64 0], none⟩ : IOper) ::
               (⟨none, .store 11 (.t 9) (.t 25), none⟩ : IOper) ::
               [])))
             (.seq
              (.keep [1, 2, 8, 9, 15, 16, 17]
              (.reg ((⟨(some 26), .mov (.t 2), none⟩ : IOper) ::
                (⟨(some 27), .load (some 11) (.t 8), none⟩ : IOper) ::
                (⟨(some 28), .load (some 11) (.t 9), none⟩ : IOper) ::
                (⟨(some 29), .call false (.t 26) [(.t 27), (.t 28)], none⟩ : IOper) ::
                (⟨(some 30), .un .not (.t 29), none⟩ : IOper) ::
                [])))
              (.cond (.t 30)
               (.seq
                (.reg ((⟨(some 6), .mov (.c (.kb false)), none⟩ : IOper) ::
                  []))
                .ret)
               .skip)))))
          (.keep [1, 2, 15, 16, 17]
          (.reg ((⟨(some 31), .bin .add (.t 17) (.c (.int .i64 1)), none⟩ : IOper) ::
            (⟨(some 17), .mov (.t 31), none⟩ : IOper) ::
            [])))))))))
    (.seq
     (.keep []
     (.reg ((⟨(some 6), .mov (.c (.kb true)), none⟩ : IOper) ::
       [])))
     .ret))))
def rd_slices_EqualFunc_api_Port_api_Port_api_Port_api_Port : List RD := [.tmp 6 true none]
theorem ok_slices_EqualFunc_api_Port_api_Port_api_Port_api_Port : fnOk Tryd.prog Tryd.f64 ir_slices_EqualFunc_api_Port_api_Port_api_Port_api_Port rd_slices_EqualFunc_api_Port_api_Port_api_Port_api_Port = true := by kernel_rfl
def S_slices_EqualFunc_api_Port_api_Port_api_Port_api_Port : List AV → List Obj → Option (Prop × AV)
  | [.imm (.cons (.int .u64) (.cons (.int .u64) (.cons .str (.cons (.cons (.int .u64) (.cons (.int .u64) (.cons (.int .u64) (.cons (.int .u64) (.cons (.int .u64) (.cons (.int .u64) (.cons (.int .u64) (.cons (.int .u64) .nil)))))))) .nil)))) a, .imm (.cons (.int .u64) (.cons (.int .u64) (.cons .str (.cons (.cons (.int .u64) (.cons (.int .u64) (.cons (.int .u64) (.cons (.int .u64) (.cons (.int .u64) (.cons (.int .u64) (.cons (.int .u64) (.cons (.int .u64) .nil)))))))) .nil)))) b, .fn 65 [] []], [] => some ((True, .bool (decide (a = b))))
  | _, _ => none
theorem snd_slices_EqualFunc_api_Port_api_Port_api_Port_api_Port : SoundS Tryd.prog 64 (RoF S_slices_EqualFunc_api_Port_api_Port_api_Port_api_Port).sum := by
  refine ro_fn Tryd.func64 ok_slices_EqualFunc_api_Port_api_Port_api_Port_api_Port (env_cons (s := RoF S_port_Same_1) snd_port_Same_1 (env_nil _)) fun args objs p v e => ?_
  unfold S_slices_EqualFunc_api_Port_api_Port_api_Port_api_Port at e
  split at e
  · rename_i a b
    cases e
    refine ⟨rfl, fun hw ho hp => ?_⟩
    change List PV at a
    change List PV at b
    have hl : a.length ≤ maxLen := (hw (.imm (.cons (.int .u64) (.cons (.int .u64) (.cons .str (.cons (.cons (.int .u64) (.cons (.int .u64) (.cons (.int .u64) (.cons (.int .u64) (.cons (.int .u64) (.cons (.int .u64) (.cons (.int .u64) (.cons (.int .u64) .nil)))))))) .nil)))) a) (by simp)).2
    unfold maxLen at hl
    clear hw ho
    repeat' (intro t ht; first | (cases t <;> first | (cases ht; done) | ((try simp only [Bool.not_eq_eq_eq_not, Bool.not_true, Bool.not_false, Bool.and_eq_true, Bool.and_eq_false_iff, decide_eq_true_eq, decide_eq_false_iff_not] at ht); (try simp only [Int.toNat_natCast, dflt_int] at ht))) | (refine ht ?_ ?_ <;> clear ht) | (refine ht.1 ?_ ?_ <;> clear ht) | (refine ht ?_; clear ht))
    all_goals first
      | (have hne : a ≠ b := fun h => (by assumption : ¬ (a.length : Int) = b.length) (by rw [h])
         refine ⟨?_, rfl⟩; rw [decide_eq_false hne]; done)
      | (intro r h1 h2; clear h1; refine h2 ⟨[1, 2, 15, 16, 17], Nat, (fun i => i ≤ a.length ∧ a.take i = b.take i), fun i => [.imm (.cons (.int .u64) (.cons (.int .u64) (.cons .str (.cons (.cons (.int .u64) (.cons (.int .u64) (.cons (.int .u64) (.cons (.int .u64) (.cons (.int .u64) (.cons (.int .u64) (.cons (.int .u64) (.cons (.int .u64) .nil)))))))) .nil)))) b, .fn 65 [] [], .imm (.cons (.int .u64) (.cons (.int .u64) (.cons .str (.cons (.cons (.int .u64) (.cons (.int .u64) (.cons (.int .u64) (.cons (.int .u64) (.cons (.int .u64) (.cons (.int .u64) (.cons (.int .u64) (.cons (.int .u64) .nil)))))))) .nil)))) a, .int .i64 a.length, .int .i64 i], fun _ => [], fun i => a.length - i, ⟨0, ⟨Nat.zero_le _, rfl⟩, rfl, rfl⟩, ?_⟩; clear h2)
    rintro i ⟨hi, he⟩
    have hl2 : a.length = b.length := by omega
    repeat' (intro t ht; first | (cases t <;> first | (cases ht; done) | ((try simp only [Bool.not_eq_eq_eq_not, Bool.not_true, Bool.not_false, Bool.and_eq_true, Bool.and_eq_false_iff, decide_eq_true_eq, decide_eq_false_iff_not] at ht); (try simp only [Int.toNat_natCast, dflt_int] at ht); (try (exfalso; first | contradiction | omega)))) | (refine ht ?_ ?_ <;> clear ht) | (refine ht.1 ?_ ?_ <;> clear ht) | (refine ht ?_; clear ht))
    all_goals (try generalize (Ty.dflt (.cons (.int .u64) (.cons (.int .u64) (.cons .str (.cons (.cons (.int .u64) (.cons (.int .u64) (.cons (.int .u64) (.cons (.int .u64) (.cons (.int .u64) (.cons (.int .u64) (.cons (.int .u64) (.cons (.int .u64) .nil)))))))) .nil))))) = pd at *)
    all_goals first
      | exact True.intro
      | ((try simp only [Int.toNat_natCast, dflt_int, decide_eq_true_eq, decide_eq_false_iff_not, Bool.not_eq_eq_eq_not, Bool.not_true, Bool.not_false, Bool.and_eq_true, Bool.and_eq_false_iff, min_i64, max_i64, min_u64, max_u64, min_u32, max_u32, min_u16, max_u16, min_u8, max_u8] at *); omega)
      | (have e := tkAll he (by omega) hl2
         refine ⟨?_, rfl⟩; rw [decide_eq_true e]; done)
      | (have hne : a ≠ b := tkNe (d := pd) (i := i) (by assumption)
         refine ⟨?_, rfl⟩; rw [decide_eq_false hne]; done)
      | exact ⟨i + 1, ⟨by omega, tkStep he (by omega) hl2 (d := pd) (by assumption)⟩, by (try simp only [Int.toNat_natCast, dflt_int, decide_eq_true_eq, decide_eq_false_iff_not, Bool.not_eq_eq_eq_not, Bool.not_true, Bool.not_false, Bool.and_eq_true, Bool.and_eq_false_iff, min_i64, max_i64, min_u64, max_u64, min_u32, max_u32, min_u16, max_u16, min_u8, max_u8] at *); omega, rfl, rfl⟩
      | trace_state
  · cases e
def ir_port_Same : IR :=
 (.seq
  (.keep [0, 1]
  (.reg ((⟨(some 4), .mov (.c (.kb false)), none⟩ : IOper) ::
    [])))
  (.seq
   (.reg ((⟨(some 5), .mov (.t 0), none⟩ : IOper) ::
     (⟨(some 6), .mov (.t 1), none⟩ : IOper) ::
     (⟨(some 7), .call false (.f 64) [(.t 5), (.t 6), (.f 65)], none⟩ : IOper) ::
     (⟨(some 4), .mov (.t 7), none⟩ : IOper) ::
     []))
   .ret))
def rd_port_Same : List RD := [.tmp 4 true none]
theorem ok_port_Same : fnOk Tryd.prog Tryd.f37 ir_port_Same rd_port_Same = true := by kernel_rfl
def S_port_Same : List AV → List Obj → Option (Prop × AV)
  | [.imm (.cons (.int .u64) (.cons (.int .u64) (.cons .str (.cons (.cons (.int .u64) (.cons (.int .u64) (.cons (.int .u64) (.cons (.int .u64) (.cons (.int .u64) (.cons (.int .u64) (.cons (.int .u64) (.cons (.int .u64) .nil)))))))) .nil)))) a, .imm (.cons (.int .u64) (.cons (.int .u64) (.cons .str (.cons (.cons (.int .u64) (.cons (.int .u64) (.cons (.int .u64) (.cons (.int .u64) (.cons (.int .u64) (.cons (.int .u64) (.cons (.int .u64) (.cons (.int .u64) .nil)))))))) .nil)))) b], [] => some ((True, .bool (decide ((a : List PV) = b))))
  | _, _ => none
theorem snd_port_Same : SoundS Tryd.prog 37 (RoF S_port_Same).sum := by
  refine ro_fn Tryd.func37 ok_port_Same (env_cons (s := RoF S_slices_EqualFunc_api_Port_api_Port_api_Port_api_Port) snd_slices_EqualFunc_api_Port_api_Port_api_Port_api_Port (env_cons (s := RoF S_port_Same_1) snd_port_Same_1 (env_nil _))) fun args objs p v e => ?_
  unfold S_port_Same at e
  split at e
  · rename_i a b
    cases e
    refine ⟨rfl, fun hw ho hp => ?_⟩
    repeat' (intro t ht; first | (cases t <;> first | (cases ht; done) | ((try simp only [Bool.not_eq_eq_eq_not, Bool.not_true, Bool.not_false, Bool.and_eq_true, Bool.and_eq_false_iff, decide_eq_true_eq, decide_eq_false_iff_not] at ht); (try simp only [Int.toNat_natCast, dflt_int] at ht); (try (exfalso; first | contradiction | omega)))) | (refine ht ?_ ?_ <;> clear ht) | (refine ht.1 ?_ ?_ <;> clear ht) | (refine ht ?_; clear ht))
    all_goals first
      | exact True.intro
      | exact ⟨rfl, rfl⟩
      | exact rfl
  · cases e
def ir_r19_Same : IR :=
 (.seq
  (.keep [0, 1]
  (.reg ((⟨(some 4), .mov (.c (.kb false)), none⟩ : IOper) ::
    [])))
  (.seq
   (.seq
    (.keep [0, 1]
    (.reg ((⟨(some 8), .mov (.t 0), none⟩ : IOper) ::
      (⟨(some 9), .len (.t 8), none⟩ : IOper) ::
      (⟨(some 10), .mov (.t 1), none⟩ : IOper) ::
      (⟨(some 11), .len (.t 10), none⟩ : IOper) ::
      (⟨(some 12), .bin .neq (.t 9) (.t 11), none⟩ : IOper) ::
      [])))
    (.cond (.t 12)
     (.seq
      (.reg ((⟨(some 4), .mov (.c (.kb false)), none⟩ : IOper) ::
        []))
      .ret)
     .skip))
   (.seq
    (.seq
     (.keep [0, 1]
     (.reg ((⟨(some 5), .mov (.c (.int .i64 0)), none⟩ : IOper) ::
       [])))
     (.block 0
      (.loop
       (.seq
        (.seq
         (.keep [0, 1, 5]
         (.reg ((⟨(some 13), .mov (.t 5), none⟩ : IOper) ::
           (⟨(some 14), .mov (.t 0), none⟩ : IOper) ::
           (⟨(some 15), .len (.t 14), none⟩ : IOper) ::
           (⟨(some 16), .bin .lss (.t 13) (.t 15), none⟩ : IOper) ::
           [])))
         (.cond (.t 16)
          .skip
          (.exit 0)))
        (.seq
         (.block 1
          (.seq
           (.keep [0, 1, 5]
           (.regD (((⟨(some 19), .mov (.t 0), none⟩, []) : IOper × List Nat) ::
             ((⟨(some 20), .mov (.t 5), none⟩, [0]) : IOper × List Nat) ::
             ((⟨(some 21), .indexSl 11 (.t 19) (.t 20), none⟩, []) : IOper × List Nat) ::
             ((⟨(some 22), .load (some 11) (.t 21), none⟩, []) : IOper × List Nat) ::
             ((⟨(some 23), .mov (.t 1), none⟩, [0, 0, 0, 0]) : IOper × List Nat) ::
             ((⟨(some 24), .mov (.t 5), none⟩, [0, 0, 0, 0, 0]) : IOper × List Nat) ::
             ((⟨(some 25), .indexSl 11 (.t 23) (.t 24), none⟩, [2, 0, 0, 0]) : IOper × List Nat) ::
             ((⟨(some 26), .load (some 11) (.t 25), none⟩, [3, 0, 0, 0]) : IOper × List Nat) ::
             ((⟨(some 6), .box [.int .u64 0, .int .u64 0, .str [], .int .u64 0, .int .u64 0, .int .u64 0, .int .u64 0, .int .u64 0, .int .u64 0, .int .u64 0, .int .u64 0], none⟩, [0, 0, 0, 0, 0, 0, 0, 0]) : IOper × List Nat) ::
             ((⟨(some 7), .box [.int .u64 0, .int .u64 0, .str [], .int .u64 0, .int .u64 0, .int .u64 0, .int .u64 0, .int .u64 0, .int .u64 0, .int .u64 0, .int .u64 0], none⟩, [0, 0, 0, 0, 0, 0, 0, 0, 0]) : IOper × List Nat) ::
             ((⟨none, .store 11 (.t 6) (.t 22), none⟩, [2, 0, 0, 0]) : IOper × List Nat) ::
             ((⟨none, .store 11 (.t 7) (.t 26), none⟩, []) : IOper × List Nat) ::
             [])))
           (.seq
            (.keep [0, 1, 5, 6, 7]
            (.reg ((⟨(some 27), .load (some 11) (.t 6), none⟩ : IOper) ::
              (⟨(some 28), .load (some 11) (.t 7), none⟩ : IOper) ::
              (⟨(some 29), .eqs false [.int .u64, .int .u64, .str, .int .u64, .int .u64, .int .u64, .int .u64, .int .u64, .int .u64, .int .u64, .int .u64] (.t 27) (.t 28), none⟩ : IOper) ::
              (⟨(some 30), .un .not (.t 29), none⟩ : IOper) ::
              [])))
            (.cond (.t 30)
             (.seq
              (.reg ((⟨(some 4), .mov (.c (.kb false)), none⟩ : IOper) ::
                []))
              .ret)
             .skip))))
         (.keep [0, 1, 5]
         (.reg ((⟨(some 17), .mov (.t 5), none⟩ : IOper) ::
           (⟨(some 18), .bin .add (.t 17) (.c (.int .i64 1)), none⟩ : IOper) ::
           (⟨(some 5), .mov (.t 18), none⟩ : IOper) ::
           []))))))))
    (.seq
     (.keep []
     (.reg ((⟨(some 4), .mov (.c (.kb true)), none⟩ : IOper) ::
       [])))
     .ret))))
def rd_r19_Same : List RD := [.tmp 4 true none]
theorem ok_r19_Same : fnOk Tryd.prog Tryd.f19 ir_r19_Same rd_r19_Same = true := by kernel_rfl
def S_r19_Same : List AV → List Obj → Option (Prop × AV)
  | [.imm (.cons (.int .u64) (.cons (.int .u64) (.cons .str (.cons (.cons (.int .u64) (.cons (.int .u64) (.cons (.int .u64) (.cons (.int .u64) (.cons (.int .u64) (.cons (.int .u64) (.cons (.int .u64) (.cons (.int .u64) .nil)))))))) .nil)))) a, .imm (.cons (.int .u64) (.cons (.int .u64) (.cons .str (.cons (.cons (.int .u64) (.cons (.int .u64) (.cons (.int .u64) (.cons (.int .u64) (.cons (.int .u64) (.cons (.int .u64) (.cons (.int .u64) (.cons (.int .u64) .nil)))))))) .nil)))) b], [] => some ((True, .bool (decide (a = b))))
  | _, _ => none
theorem snd_r19_Same : SoundS Tryd.prog 19 (RoF S_r19_Same).sum := by
  refine ro_fn Tryd.func19 ok_r19_Same (env_nil _) fun args objs p v e => ?_
  unfold S_r19_Same at e
  split at e
  · rename_i a b
    cases e
    refine ⟨rfl, fun hw ho hp => ?_⟩
    change List PV at a
    change List PV at b
    have hl : a.length ≤ maxLen := (hw (.imm (.cons (.int .u64) (.cons (.int .u64) (.cons .str (.cons (.cons (.int .u64) (.cons (.int .u64) (.cons (.int .u64) (.cons (.int .u64) (.cons (.int .u64) (.cons (.int .u64) (.cons (.int .u64) (.cons (.int .u64) .nil)))))))) .nil)))) a) (by simp)).2
    unfold maxLen at hl
    clear hw ho
    repeat' (intro t ht; first | (cases t <;> first | (cases ht; done) | ((try simp only [Bool.not_eq_eq_eq_not, Bool.not_true, Bool.not_false, Bool.and_eq_true, Bool.and_eq_false_iff, decide_eq_true_eq, decide_eq_false_iff_not] at ht); (try simp only [Int.toNat_natCast, dflt_int] at ht))) | (refine ht ?_ ?_ <;> clear ht) | (refine ht.1 ?_ ?_ <;> clear ht) | (refine ht ?_; clear ht))
    all_goals first
      | (have hne : a ≠ b := fun h => (by assumption : ¬ (a.length : Int) = b.length) (by rw [h])
         refine ⟨?_, rfl⟩; rw [decide_eq_false hne]; done)
      | (intro r h1 h2; clear h1; refine h2 ⟨[0, 1, 5], Nat, (fun i => i ≤ a.length ∧ a.take i = b.take i), fun i => [.imm (.cons (.int .u64) (.cons (.int .u64) (.cons .str (.cons (.cons (.int .u64) (.cons (.int .u64) (.cons (.int .u64) (.cons (.int .u64) (.cons (.int .u64) (.cons (.int .u64) (.cons (.int .u64) (.cons (.int .u64) .nil)))))))) .nil)))) a, .imm (.cons (.int .u64) (.cons (.int .u64) (.cons .str (.cons (.cons (.int .u64) (.cons (.int .u64) (.cons (.int .u64) (.cons (.int .u64) (.cons (.int .u64) (.cons (.int .u64) (.cons (.int .u64) (.cons (.int .u64) .nil)))))))) .nil)))) b, .int .i64 i], fun _ => [], fun i => a.length - i, ⟨0, ⟨Nat.zero_le _, rfl⟩, rfl, rfl⟩, ?_⟩; clear h2)
    rintro i ⟨hi, he⟩
    have hl2 : a.length = b.length := by omega
    repeat' (intro t ht; first | (cases t <;> first | (cases ht; done) | ((try simp only [Bool.not_eq_eq_eq_not, Bool.not_true, Bool.not_false, Bool.and_eq_true, Bool.and_eq_false_iff, decide_eq_true_eq, decide_eq_false_iff_not] at ht); (try simp only [Int.toNat_natCast, dflt_int] at ht); (try (exfalso; first | contradiction | omega)))) | (refine ht ?_ ?_ <;> clear ht) | (refine ht.1 ?_ ?_ <;> clear ht) | (refine ht ?_; clear ht))
    all_goals (try generalize (Ty.dflt (.cons (.int .u64) (.cons (.int .u64) (.cons .str (.cons (.cons (.int .u64) (.cons (.int .u64) (.cons (.int .u64) (.cons (.int .u64) (.cons (.int .u64) (.cons (.int .u64) (.cons (.int .u64) (.cons (.int .u64) .nil)))))))) .nil))))) = pd at *)
    all_goals first
      | exact True.intro
      | ((try simp only [Int.toNat_natCast, dflt_int, decide_eq_true_eq, decide_eq_false_iff_not, Bool.not_eq_eq_eq_not, Bool.not_true, Bool.not_false, Bool.and_eq_true, Bool.and_eq_false_iff, min_i64, max_i64, min_u64, max_u64, min_u32, max_u32, min_u16, max_u16, min_u8, max_u8] at *); omega)
      | (have e := tkAll he (by omega) hl2
         refine ⟨?_, rfl⟩; rw [decide_eq_true e]; done)
      | (have hne : a ≠ b := tkNe (d := pd) (i := i) (fun h => by rw [h] at ht; simp at ht)
         refine ⟨?_, rfl⟩; rw [decide_eq_false hne]; done)
      | exact ⟨i + 1, ⟨by omega, tkStep he (by omega) hl2 (d := pd) (eqP_and ht)⟩, by (try simp only [Int.toNat_natCast, dflt_int, decide_eq_true_eq, decide_eq_false_iff_not, Bool.not_eq_eq_eq_not, Bool.not_true, Bool.not_false, Bool.and_eq_true, Bool.and_eq_false_iff, min_i64, max_i64, min_u64, max_u64, min_u32, max_u32, min_u16, max_u16, min_u8, max_u8] at *); omega, rfl, rfl⟩
      | trace_state
  · cases e
end Go.Eng
