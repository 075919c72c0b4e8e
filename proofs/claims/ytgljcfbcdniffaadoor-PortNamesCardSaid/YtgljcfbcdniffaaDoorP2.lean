/- Contracts of functions of the given program, told by plain Lean functions. No condition. -/
import Derived.Test.YtgljcfbcdniffaaDoorProg
import Derived.Test.YtgljcfbcdniffaaDoorESum
import Derived.KernelRfl
import Derived.Lib.BytesEntry
import Derived.Lib.Walk
import Derived.Laws.Externs
import Derived.Lib.Strings
import Derived.Lib.Slices
import Derived.Test.YtgljcfbcdniffaaDoorP1
import Derived.Test.YtgljcfbcdniffaaDoorT1
namespace Go.Eng
open Go.Proofs
set_option linter.unusedVariables false
set_option linter.unusedSimpArgs false
set_option maxRecDepth 100000
set_option maxHeartbeats 1000000
/-- The first place of a byte; -1: there is none. -/
def idxA (c : Int) : List Int → Int → Int
  | [], _ => -1
  | b :: l, i => if b = c then i else idxA c l (i + 1)
theorem byte_inj {b c : Int} (hb : 0 ≤ b ∧ b ≤ 255) (hc : 0 ≤ c ∧ c ≤ 255) : (UInt8.ofNat b.toNat == c.toNat.toUInt8) = decide (b = c) := by
  rw [Bool.eq_iff_iff, beq_iff_eq, decide_eq_true_eq]
  constructor
  · intro h
    have h2 := congrArg UInt8.toNat h
    rw [UInt8.toNat_ofNat', Nat.toUInt8, UInt8.toNat_ofNat', Nat.mod_eq_of_lt (by omega), Nat.mod_eq_of_lt (by omega)] at h2
    omega
  · rintro rfl; rfl
theorem idxA_eq {c : Int} (hc : 0 ≤ c ∧ c ≤ 255) : ∀ (xs : List Int) (i : Int), (∀ x ∈ xs, 0 ≤ x ∧ x ≤ 255) → 0 ≤ i →
    (Go.Lib.indexByte (Go.Lib.bytesOf xs) c.toNat.toUInt8 = -1 ∧ idxA c xs i = -1) ∨ (0 ≤ Go.Lib.indexByte (Go.Lib.bytesOf xs) c.toNat.toUInt8 ∧ idxA c xs i = i + Go.Lib.indexByte (Go.Lib.bytesOf xs) c.toNat.toUInt8)
  | [], i, _, _ => .inl ⟨rfl, rfl⟩
  | b :: l, i, h, h0 => by
    have ih := idxA_eq hc l (i + 1) (fun x hx => h x (List.mem_cons_of_mem _ hx)) (by omega)
    have e := byte_inj (h b (List.mem_cons_self ..)) hc
    have e0 : Go.Lib.bytesOf (b :: l) = UInt8.ofNat b.toNat :: Go.Lib.bytesOf l := rfl
    rw [e0]
    unfold Go.Lib.indexByte idxA
    rw [e]
    by_cases hbc : b = c
    · rw [if_pos hbc, decide_eq_true hbc]; simp
    · rw [if_neg hbc, decide_eq_false hbc]
      simp only [Bool.false_eq_true, if_false]
      rcases ih with ⟨h1, h2⟩ | ⟨h1, h2⟩
      · left; rw [h1, h2]; exact ⟨rfl, rfl⟩
      · right
        have : (Go.Lib.indexByte (Go.Lib.bytesOf l) c.toNat.toUInt8 == -1) = false := by rw [beq_eq_false_iff_ne]; omega
        rw [this, h2]; simp only [Bool.false_eq_true, if_false]; omega
theorem idxA_zero {c : Int} (hc : 0 ≤ c ∧ c ≤ 255) {xs : List Int} (h : ∀ x ∈ xs, 0 ≤ x ∧ x ≤ 255) : Go.Lib.indexByte (Go.Lib.bytesOf xs) c.toNat.toUInt8 = idxA c xs 0 := by
  rcases idxA_eq hc xs 0 h (Int.le_refl _) with ⟨h1, h2⟩ | ⟨h1, h2⟩ <;> rw [h2] <;> omega
theorem idxA_le {c : Int} : ∀ (xs : List Int) (i : Int), 0 ≤ i → -1 ≤ idxA c xs i ∧ idxA c xs i < i + xs.length ∨ idxA c xs i = -1
  | [], i, _ => .inr rfl
  | b :: l, i, h => by
    unfold idxA
    split
    · left; simp only [List.length_cons]; omega
    · rcases idxA_le (c := c) l (i + 1) (by omega) with h1 | h1
      · left; simp only [List.length_cons]; omega
      · exact .inr h1
theorem idx_run {P : Program} {w : World} {ao : Option Addr} {n c : Nat} {xs : List Int} (cv : Int) (hl : (Extern.Bytes.bytesOf (.slice ao n c)).run P w = .ok ⟨(Go.Lib.bytesOf xs).toArray⟩ w) :
    (Extern.BytealgIndexByte.indexByte #[.slice ao n c, .int .u8 cv]).run P w = .ok (.int .i64 (Go.Lib.indexByte (Go.Lib.bytesOf xs) cv.toNat.toUInt8)) w := by
  have hs := Go.Lib.run_indexByteString (P := P) ⟨(Go.Lib.bytesOf xs).toArray⟩ cv w
  change Sem.run P (do
    let b ← Extern.Bytes.bytesOf (.slice ao n c)
    let c ← Extern.Bytes.asByte (.int .u8 cv)
    match (List.range b.size).find? fun i => b[i]! == c with
    | some i => pure (goInt i)
    | none => pure (goInt (-1))) w = _
  change Sem.run P (do
    let b ← Extern.Bytes.bytesOf (.string ⟨(Go.Lib.bytesOf xs).toArray⟩)
    let c ← Extern.Bytes.asByte (.int .u8 cv)
    match (List.range b.size).find? fun i => b[i]! == c with
    | some i => pure (goInt i)
    | none => pure (goInt (-1))) w = _ at hs
  rw [Sem.run_bind, hl]
  exact hs
theorem idx_load {P : Program} {I : Nat → Prop} {w : World} {ao : Option Addr} {n c : Nat} {xs : List Int} (h : RS I w (.int .u8) xs ao n c) :
    (Extern.Bytes.bytesOf (.slice ao n c)).run P w = .ok ⟨(Go.Lib.bytesOf xs).toArray⟩ w := by
  obtain ⟨h1, h2, h3, h4⟩ := h
  change List Int at xs
  cases ao with
  | none =>
    have : xs = [] := by
      cases xs with
      | nil => rfl
      | cons a l => obtain ⟨b, o, e, _⟩ := h4 (by rw [h1]; simp); cases e
    subst this; rfl
  | some a =>
    have hl := Go.Lib.run_loadBytesX (P := P) w xs a .empty (fun j x hj => by
      have hjl : j < xs.length := (List.getElem?_eq_some_iff.1 hj).1
      obtain ⟨b, o, e, _, h5⟩ := h4 (by omega)
      cases e
      obtain ⟨es, h6, h7⟩ := h5 j hjl
      simp only [RC] at h6
      obtain ⟨rfl, _⟩ := h6
      have h8 := h7 0 (by simp)
      have e : (⟨b, o, none⟩ : Addr).add j = ⟨b, o + j * (Ty.int .u8).size + 0, none⟩ := by
        show _ = (⟨b, o + j * 1 + 0, none⟩ : Addr)
        unfold Addr.add; split <;> simp_all
      rw [e, h8]
      have : xs[j]? = some xs[j] := List.getElem?_eq_getElem hjl
      rw [this] at hj; cases hj; rfl)
    show (Extern.Bytes.loadBytes a n .empty).run P w = _
    rw [h1, hl]
    have he : (ByteArray.empty.data ++ (Go.Lib.bytesOf xs).toArray) = (Go.Lib.bytesOf xs).toArray := by
      show (#[] : Array UInt8) ++ _ = _
      simp
    rw [he]
def ir_bytes_IndexByte : IR :=
 (.seq
  (.keep [0, 1]
  (.reg ((⟨(some 4), .mov (.c (.int .i64 0)), none⟩ : IOper) ::
    [])))
  (.seq
   (.reg ((⟨(some 5), .mov (.t 0), none⟩ : IOper) ::
     (⟨(some 6), .mov (.t 1), none⟩ : IOper) ::
     (⟨(some 7), .call false (.f 165) [(.t 5), (.t 6)], none⟩ : IOper) ::
     (⟨(some 4), .mov (.t 7), none⟩ : IOper) ::
     []))
   .ret))
def rd_bytes_IndexByte : List RD := [.tmp 4 true none]
theorem ok_bytes_IndexByte : fnOk Tryd.prog Tryd.f149 ir_bytes_IndexByte rd_bytes_IndexByte = true := by kernel_rfl
def S_bytes_IndexByte : List AV → List Obj → Option (Prop × AV)
  | [.imm (.int .u8) s, .int .u8 c], [] => some (True, .int .i64 (idxA c s 0))
  | _, _ => none
theorem cal_bytes_IndexByte {I : Nat → Prop} {xs : List Int} {ao : Option Addr} {n cap : Nat} {c : Int} {w : World} (h : RS I w (.int .u8) xs ao n cap) :
    Calls Tryd.prog 149 #[.slice ao n cap, .int .u8 c] w fun e w' => e = .returned (.int .i64 (Go.Lib.indexByte (Go.Lib.bytesOf xs) c.toNat.toUInt8)) ∧ w' = w := by
  have hr := idx_run (P := Tryd.prog) c (idx_load h)
  go_enter Tryd.func149, Tryd.ntmps149
  go_wp2
  rw [run_callFunc_extern Tryd.func165 (by kernel_rfl) (by kernel_rfl) (by kernel_rfl) (e := Extern.BytealgIndexByte.indexByte) (by kernel_rfl), hr]
  simp only [Result.andThen]
  rw [Oper.upon_value]
  go_wp2
  go_ret
  exact ⟨rfl, rfl⟩
theorem snd_bytes_IndexByte : SoundS Tryd.prog 149 (RoF S_bytes_IndexByte).sum := by
  refine ⟨⟨_, Tryd.func149, by kernel_rfl, by kernel_rfl⟩, ro_det _, fun {I w m args cargs objs K} hH hA hu hS => ?_⟩
  simp only [RoF, SumK.sum] at hS
  split at hS
  · rename_i p v e
    obtain ⟨hp, hk⟩ := need_both hS
    have hwf := RVL2_wf hA
    unfold S_bytes_IndexByte at e
    split at e
    · rename_i s c
      cases e
      obtain ⟨l⟩ := cargs
      match l, hA with
      | [a, b], hA =>
        obtain ⟨h1, h2, _⟩ := hA
        obtain ⟨ao, n, cap, rfl, hs⟩ : ∃ ao len cap, a = .slice ao len cap ∧ RS I w (.int .u8) s ao len cap := h1
        obtain ⟨rfl, hc⟩ : b = .int .u8 c ∧ inK .u8 c := h2
        have hb : ∀ x ∈ (s : List Int), (0 : Int) ≤ x ∧ x ≤ 255 := fun x hx => (hwf (.imm (.int .u8) s) (by simp)).1 x hx
        have hsl : List.length (α := Int) s ≤ maxLen := (hwf (.imm (.int .u8) s) (by simp)).2
        refine (cal_bytes_IndexByte hs).mono ?_
        rintro e w' ⟨rfl, rfl⟩
        rw [idxA_zero hc hb]
        have hle := idxA_le (c := c) s 0 (Int.le_refl _)
        unfold maxLen at hsl
        exact ⟨_, _, _, I, m, rfl, hk, ⟨⟨rfl, by unfold inK; rw [min_i64, max_i64]; change List Int at s; omega⟩, hH, Evo.refl _ _ _, hu, Nat.le_refl _, Fr.refl _ _, fun b h => .inl h, fun i o b h1 h2 h3 => .inr ⟨i, o, h1, h2, fun h => h, h3⟩⟩⟩
    · cases e
  · exact hS.elim
def ir_bytes_Index : IR :=
 (.seq
  (.keep [0, 1]
  (.reg ((⟨(some 4), .mov (.c (.int .i64 0)), none⟩ : IOper) ::
    [])))
  (.seq
   (.reg ((⟨(some 20), .mov (.t 1), none⟩ : IOper) ::
     (⟨(some 21), .len (.t 20), none⟩ : IOper) ::
     (⟨(some 5), .mov (.t 21), none⟩ : IOper) ::
     []))
   (.seq
    (.block 0
     (.seq
      (.reg ((⟨(some 23), .mov (.t 5), none⟩ : IOper) ::
        (⟨(some 24), .bin .eql (.t 23) (.c (.int .i64 0)), none⟩ : IOper) ::
        (⟨(some 22), .mov (.t 24), none⟩ : IOper) ::
        []))
      (.cond (.t 22)
       (.seq
        (.keep []
        (.reg ((⟨(some 4), .mov (.c (.int .i64 0)), none⟩ : IOper) ::
          [])))
        .ret)
       (.seq
        (.keep [0, 1, 5]
        (.reg ((⟨(some 26), .mov (.t 5), none⟩ : IOper) ::
          (⟨(some 27), .bin .eql (.t 26) (.c (.int .i64 1)), none⟩ : IOper) ::
          (⟨(some 25), .mov (.t 27), none⟩ : IOper) ::
          [])))
        (.cond (.t 25)
         (.seq
          (.keep [0, 1]
          (.reg ((⟨(some 28), .mov (.t 0), none⟩ : IOper) ::
            (⟨(some 29), .mov (.t 1), none⟩ : IOper) ::
            (⟨(some 30), .indexSl 1 (.t 29) (.c (.int .i64 0)), none⟩ : IOper) ::
            (⟨(some 31), .load none (.t 30), none⟩ : IOper) ::
            (⟨(some 32), .call false (.f 149) [(.t 28), (.t 31)], none⟩ : IOper) ::
            (⟨(some 4), .mov (.t 32), none⟩ : IOper) ::
            [])))
          .ret)
         (.seq
          (.keep [0, 1, 5]
          (.reg ((⟨(some 34), .mov (.t 5), none⟩ : IOper) ::
            (⟨(some 35), .mov (.t 0), none⟩ : IOper) ::
            (⟨(some 36), .len (.t 35), none⟩ : IOper) ::
            (⟨(some 37), .bin .eql (.t 34) (.t 36), none⟩ : IOper) ::
            (⟨(some 33), .mov (.t 37), none⟩ : IOper) ::
            [])))
          (.cond (.t 33)
           (.seq
            (.seq
             (.reg ((⟨(some 38), .mov (.t 1), none⟩ : IOper) ::
               (⟨(some 39), .mov (.t 0), none⟩ : IOper) ::
               (⟨(some 40), .call false (.f 49) [(.t 38), (.t 39)], none⟩ : IOper) ::
               []))
             (.cond (.t 40)
              (.seq
               (.keep []
               (.reg ((⟨(some 4), .mov (.c (.int .i64 0)), none⟩ : IOper) ::
                 [])))
               .ret)
              .skip))
            (.seq
             (.keep []
             (.reg ((⟨(some 4), .mov (.c (.int .i64 (-1))), none⟩ : IOper) ::
               [])))
             .ret))
           (.seq
            (.keep [0, 1, 5]
            (.reg ((⟨(some 42), .mov (.t 5), none⟩ : IOper) ::
              (⟨(some 43), .mov (.t 0), none⟩ : IOper) ::
              (⟨(some 44), .len (.t 43), none⟩ : IOper) ::
              (⟨(some 45), .bin .gtr (.t 42) (.t 44), none⟩ : IOper) ::
              (⟨(some 41), .mov (.t 45), none⟩ : IOper) ::
              [])))
            (.cond (.t 41)
             (.seq
              (.reg ((⟨(some 4), .mov (.c (.int .i64 (-1))), none⟩ : IOper) ::
                []))
              .ret)
             (.seq
              (.reg ((⟨(some 47), .mov (.t 5), none⟩ : IOper) ::
                (⟨(some 48), .bad, none⟩ : IOper) ::
                (⟨(some 49), .bin .leq (.t 47) (.t 48), none⟩ : IOper) ::
                (⟨(some 46), .mov (.t 49), none⟩ : IOper) ::
                []))
              (.cond (.t 46)
               (.seq
                (.seq
                 (.keep [0, 1, 5]
                 (.reg ((⟨(some 50), .mov (.t 0), none⟩ : IOper) ::
                   (⟨(some 51), .len (.t 50), none⟩ : IOper) ::
                   (⟨(some 52), .bin .leq (.t 51) (.c (.int .i64 64)), none⟩ : IOper) ::
                   [])))
                 (.cond (.t 52)
                  (.seq
                   (.reg ((⟨(some 53), .mov (.t 0), none⟩ : IOper) ::
                     (⟨(some 54), .mov (.t 1), none⟩ : IOper) ::
                     (⟨(some 55), .call false (.f 150) [(.t 53), (.t 54)], none⟩ : IOper) ::
                     (⟨(some 4), .mov (.t 55), none⟩ : IOper) ::
                     []))
                   .ret)
                  .skip))
                (.seq
                 (.keep [0, 1, 5]
                 (.reg ((⟨(some 56), .mov (.t 1), none⟩ : IOper) ::
                   (⟨(some 57), .indexSl 1 (.t 56) (.c (.int .i64 0)), none⟩ : IOper) ::
                   (⟨(some 58), .load none (.t 57), none⟩ : IOper) ::
                   (⟨(some 6), .mov (.t 58), none⟩ : IOper) ::
                   [])))
                 (.seq
                  (.reg ((⟨(some 59), .mov (.t 1), none⟩ : IOper) ::
                    (⟨(some 60), .indexSl 1 (.t 59) (.c (.int .i64 1)), none⟩ : IOper) ::
                    (⟨(some 61), .load none (.t 60), none⟩ : IOper) ::
                    (⟨(some 7), .mov (.t 61), none⟩ : IOper) ::
                    []))
                  (.seq
                   (.keep [0, 1, 5, 6, 7]
                   (.reg ((⟨(some 8), .mov (.c (.int .i64 0)), none⟩ : IOper) ::
                     [])))
                   (.seq
                    (.keep [0, 1, 5, 6, 7, 8]
                    (.reg ((⟨(some 62), .mov (.t 0), none⟩ : IOper) ::
                      (⟨(some 63), .len (.t 62), none⟩ : IOper) ::
                      (⟨(some 64), .mov (.t 5), none⟩ : IOper) ::
                      (⟨(some 65), .bin .sub (.t 63) (.t 64), none⟩ : IOper) ::
                      (⟨(some 66), .bin .add (.t 65) (.c (.int .i64 1)), none⟩ : IOper) ::
                      (⟨(some 9), .mov (.t 66), none⟩ : IOper) ::
                      [])))
                    (.seq
                     (.reg ((⟨(some 10), .mov (.c (.int .i64 0)), none⟩ : IOper) ::
                       []))
                     (.seq
                      (.block 1
                       (.loop
                        (.seq
                         (.seq
                          (.keep [0, 1, 5, 6, 7, 8, 9, 10]
                          (.reg ((⟨(some 67), .mov (.t 8), none⟩ : IOper) ::
                            (⟨(some 68), .mov (.t 9), none⟩ : IOper) ::
                            (⟨(some 69), .bin .lss (.t 67) (.t 68), none⟩ : IOper) ::
                            [])))
                          (.cond (.t 69)
                           .skip
                           (.exit 1)))
                         (.block 2
                          (.seq
                           (.seq
                            (.keep [0, 1, 5, 6, 7, 8, 9, 10]
                            (.reg ((⟨(some 70), .mov (.t 0), none⟩ : IOper) ::
                              (⟨(some 71), .mov (.t 8), none⟩ : IOper) ::
                              (⟨(some 72), .indexSl 1 (.t 70) (.t 71), none⟩ : IOper) ::
                              (⟨(some 73), .load none (.t 72), none⟩ : IOper) ::
                              (⟨(some 74), .mov (.t 6), none⟩ : IOper) ::
                              (⟨(some 75), .bin .neq (.t 73) (.t 74), none⟩ : IOper) ::
                              [])))
                            (.cond (.t 75)
                             (.seq
                              (.keep [0, 1, 5, 6, 7, 8, 9, 10]
                              (.reg ((⟨(some 76), .mov (.t 0), none⟩ : IOper) ::
                                (⟨(some 77), .mov (.t 8), none⟩ : IOper) ::
                                (⟨(some 78), .bin .add (.t 77) (.c (.int .i64 1)), none⟩ : IOper) ::
                                (⟨(some 79), .mov (.t 9), none⟩ : IOper) ::
                                (⟨(some 80), .slice 1 (.t 76) (some (.t 78)) (some (.t 79)) none, none⟩ : IOper) ::
                                (⟨(some 81), .mov (.t 6), none⟩ : IOper) ::
                                (⟨(some 82), .call false (.f 149) [(.t 80), (.t 81)], none⟩ : IOper) ::
                                (⟨(some 11), .mov (.t 82), none⟩ : IOper) ::
                                [])))
                              (.seq
                               (.seq
                                (.keep [0, 1, 5, 6, 7, 8, 9, 10, 11]
                                (.reg ((⟨(some 83), .mov (.t 11), none⟩ : IOper) ::
                                  (⟨(some 84), .bin .lss (.t 83) (.c (.int .i64 0)), none⟩ : IOper) ::
                                  [])))
                                (.cond (.t 84)
                                 (.seq
                                  (.reg ((⟨(some 4), .mov (.c (.int .i64 (-1))), none⟩ : IOper) ::
                                    []))
                                  .ret)
                                 .skip))
                               (.keep [0, 1, 5, 6, 7, 8, 9, 10, 11]
                               (.reg ((⟨(some 85), .mov (.t 8), none⟩ : IOper) ::
                                 (⟨(some 86), .mov (.t 11), none⟩ : IOper) ::
                                 (⟨(some 87), .bin .add (.t 86) (.c (.int .i64 1)), none⟩ : IOper) ::
                                 (⟨(some 88), .bin .add (.t 85) (.t 87), none⟩ : IOper) ::
                                 (⟨(some 8), .mov (.t 88), none⟩ : IOper) ::
                                 [])))))
                             .skip))
                           (.seq
                            (.seq
                             (.keep [0, 1, 5, 6, 7, 8, 9, 10]
                             (.reg ((⟨(some 89), .mov (.t 0), none⟩ : IOper) ::
                               (⟨(some 90), .mov (.t 8), none⟩ : IOper) ::
                               (⟨(some 91), .bin .add (.t 90) (.c (.int .i64 1)), none⟩ : IOper) ::
                               (⟨(some 92), .indexSl 1 (.t 89) (.t 91), none⟩ : IOper) ::
                               (⟨(some 93), .load none (.t 92), none⟩ : IOper) ::
                               (⟨(some 94), .mov (.t 7), none⟩ : IOper) ::
                               (⟨(some 95), .bin .eql (.t 93) (.t 94), none⟩ : IOper) ::
                               (⟨(some 96), .mov (.t 95), none⟩ : IOper) ::
                               (⟨(some 97), .mov (.t 0), (some (96, true))⟩ : IOper) ::
                               (⟨(some 98), .mov (.t 8), (some (96, true))⟩ : IOper) ::
                               (⟨(some 99), .mov (.t 8), (some (96, true))⟩ : IOper) ::
                               (⟨(some 100), .mov (.t 5), (some (96, true))⟩ : IOper) ::
                               (⟨(some 101), .bin .add (.t 99) (.t 100), (some (96, true))⟩ : IOper) ::
                               (⟨(some 102), .slice 1 (.t 97) (some (.t 98)) (some (.t 101)) none, (some (96, true))⟩ : IOper) ::
                               (⟨(some 103), .mov (.t 1), (some (96, true))⟩ : IOper) ::
                               (⟨(some 104), .call false (.f 49) [(.t 102), (.t 103)], (some (96, true))⟩ : IOper) ::
                               (⟨(some 105), .pick (.t 96) (.t 104) (.c (.kb false)), none⟩ : IOper) ::
                               [])))
                             (.cond (.t 105)
                              (.seq
                               (.keep [8]
                               (.reg ((⟨(some 106), .mov (.t 8), none⟩ : IOper) ::
                                 (⟨(some 4), .mov (.t 106), none⟩ : IOper) ::
                                 [])))
                               .ret)
                              .skip))
                            (.seq
                             (.keep [0, 1, 5, 6, 7, 8, 9, 10]
                             (.reg ((⟨(some 107), .mov (.t 10), none⟩ : IOper) ::
                               (⟨(some 108), .bin .add (.t 107) (.c (.int .i64 1)), none⟩ : IOper) ::
                               (⟨(some 10), .mov (.t 108), none⟩ : IOper) ::
                               [])))
                             (.seq
                              (.reg ((⟨(some 109), .mov (.t 8), none⟩ : IOper) ::
                                (⟨(some 110), .bin .add (.t 109) (.c (.int .i64 1)), none⟩ : IOper) ::
                                (⟨(some 8), .mov (.t 110), none⟩ : IOper) ::
                                []))
                              (.seq
                               (.reg ((⟨(some 111), .mov (.t 10), none⟩ : IOper) ::
                                 (⟨(some 112), .mov (.t 8), none⟩ : IOper) ::
                                 (⟨(some 113), .call false (.f 151) [(.t 112)], none⟩ : IOper) ::
                                 (⟨(some 114), .bin .gtr (.t 111) (.t 113), none⟩ : IOper) ::
                                 []))
                               (.cond (.t 114)
                                (.seq
                                 (.keep [0, 1, 8]
                                 (.reg ((⟨(some 115), .mov (.t 0), none⟩ : IOper) ::
                                   (⟨(some 116), .mov (.t 8), none⟩ : IOper) ::
                                   (⟨(some 117), .slice 1 (.t 115) (some (.t 116)) none none, none⟩ : IOper) ::
                                   (⟨(some 118), .mov (.t 1), none⟩ : IOper) ::
                                   (⟨(some 119), .call false (.f 150) [(.t 117), (.t 118)], none⟩ : IOper) ::
                                   (⟨(some 12), .mov (.t 119), none⟩ : IOper) ::
                                   [])))
                                 (.seq
                                  (.seq
                                   (.reg ((⟨(some 120), .mov (.t 12), none⟩ : IOper) ::
                                     (⟨(some 121), .bin .geq (.t 120) (.c (.int .i64 0)), none⟩ : IOper) ::
                                     []))
                                   (.cond (.t 121)
                                    (.seq
                                     (.keep [8, 12]
                                     (.reg ((⟨(some 122), .mov (.t 12), none⟩ : IOper) ::
                                       (⟨(some 123), .mov (.t 8), none⟩ : IOper) ::
                                       (⟨(some 124), .bin .add (.t 122) (.t 123), none⟩ : IOper) ::
                                       (⟨(some 4), .mov (.t 124), none⟩ : IOper) ::
                                       [])))
                                     .ret)
                                    .skip))
                                  (.seq
                                   (.keep []
                                   (.reg ((⟨(some 4), .mov (.c (.int .i64 (-1))), none⟩ : IOper) ::
                                     [])))
                                   .ret)))
                                .skip))))))))))
                      (.seq
                       (.keep []
                       (.reg ((⟨(some 4), .mov (.c (.int .i64 (-1))), none⟩ : IOper) ::
                         [])))
                       .ret))))))))
               .skip)))))))))))
    (.seq
     (.keep [0, 1, 5]
     (.reg ((⟨(some 125), .mov (.t 1), none⟩ : IOper) ::
       (⟨(some 126), .indexSl 1 (.t 125) (.c (.int .i64 0)), none⟩ : IOper) ::
       (⟨(some 127), .load none (.t 126), none⟩ : IOper) ::
       (⟨(some 13), .mov (.t 127), none⟩ : IOper) ::
       [])))
     (.seq
      (.reg ((⟨(some 128), .mov (.t 1), none⟩ : IOper) ::
        (⟨(some 129), .indexSl 1 (.t 128) (.c (.int .i64 1)), none⟩ : IOper) ::
        (⟨(some 130), .load none (.t 129), none⟩ : IOper) ::
        (⟨(some 14), .mov (.t 130), none⟩ : IOper) ::
        []))
      (.seq
       (.keep [0, 1, 5, 13, 14]
       (.reg ((⟨(some 15), .mov (.c (.int .i64 0)), none⟩ : IOper) ::
         [])))
       (.seq
        (.reg ((⟨(some 16), .mov (.c (.int .i64 0)), none⟩ : IOper) ::
          []))
        (.seq
         (.keep [0, 1, 5, 13, 14, 15, 16]
         (.reg ((⟨(some 131), .mov (.t 0), none⟩ : IOper) ::
           (⟨(some 132), .len (.t 131), none⟩ : IOper) ::
           (⟨(some 133), .mov (.t 5), none⟩ : IOper) ::
           (⟨(some 134), .bin .sub (.t 132) (.t 133), none⟩ : IOper) ::
           (⟨(some 135), .bin .add (.t 134) (.c (.int .i64 1)), none⟩ : IOper) ::
           (⟨(some 17), .mov (.t 135), none⟩ : IOper) ::
           [])))
         (.seq
          (.block 3
           (.loop
            (.seq
             (.seq
              (.keep [0, 1, 5, 13, 14, 15, 16, 17]
              (.reg ((⟨(some 136), .mov (.t 15), none⟩ : IOper) ::
                (⟨(some 137), .mov (.t 17), none⟩ : IOper) ::
                (⟨(some 138), .bin .lss (.t 136) (.t 137), none⟩ : IOper) ::
                [])))
              (.cond (.t 138)
               .skip
               (.exit 3)))
             (.block 4
              (.seq
               (.seq
                (.keep [0, 1, 5, 13, 14, 15, 16, 17]
                (.reg ((⟨(some 139), .mov (.t 0), none⟩ : IOper) ::
                  (⟨(some 140), .mov (.t 15), none⟩ : IOper) ::
                  (⟨(some 141), .indexSl 1 (.t 139) (.t 140), none⟩ : IOper) ::
                  (⟨(some 142), .load none (.t 141), none⟩ : IOper) ::
                  (⟨(some 143), .mov (.t 13), none⟩ : IOper) ::
                  (⟨(some 144), .bin .neq (.t 142) (.t 143), none⟩ : IOper) ::
                  [])))
                (.cond (.t 144)
                 (.seq
                  (.keep [0, 1, 5, 13, 14, 15, 16, 17]
                  (.reg ((⟨(some 145), .mov (.t 0), none⟩ : IOper) ::
                    (⟨(some 146), .mov (.t 15), none⟩ : IOper) ::
                    (⟨(some 147), .bin .add (.t 146) (.c (.int .i64 1)), none⟩ : IOper) ::
                    (⟨(some 148), .mov (.t 17), none⟩ : IOper) ::
                    (⟨(some 149), .slice 1 (.t 145) (some (.t 147)) (some (.t 148)) none, none⟩ : IOper) ::
                    (⟨(some 150), .mov (.t 13), none⟩ : IOper) ::
                    (⟨(some 151), .call false (.f 149) [(.t 149), (.t 150)], none⟩ : IOper) ::
                    (⟨(some 18), .mov (.t 151), none⟩ : IOper) ::
                    [])))
                  (.seq
                   (.seq
                    (.keep [0, 1, 5, 13, 14, 15, 16, 17, 18]
                    (.reg ((⟨(some 152), .mov (.t 18), none⟩ : IOper) ::
                      (⟨(some 153), .bin .lss (.t 152) (.c (.int .i64 0)), none⟩ : IOper) ::
                      [])))
                    (.cond (.t 153)
                     (.exit 3)
                     .skip))
                   (.keep [0, 1, 5, 13, 14, 15, 16, 17, 18]
                   (.reg ((⟨(some 154), .mov (.t 15), none⟩ : IOper) ::
                     (⟨(some 155), .mov (.t 18), none⟩ : IOper) ::
                     (⟨(some 156), .bin .add (.t 155) (.c (.int .i64 1)), none⟩ : IOper) ::
                     (⟨(some 157), .bin .add (.t 154) (.t 156), none⟩ : IOper) ::
                     (⟨(some 15), .mov (.t 157), none⟩ : IOper) ::
                     [])))))
                 .skip))
               (.seq
                (.seq
                 (.keep [0, 1, 5, 13, 14, 15, 16, 17]
                 (.reg ((⟨(some 158), .mov (.t 0), none⟩ : IOper) ::
                   (⟨(some 159), .mov (.t 15), none⟩ : IOper) ::
                   (⟨(some 160), .bin .add (.t 159) (.c (.int .i64 1)), none⟩ : IOper) ::
                   (⟨(some 161), .indexSl 1 (.t 158) (.t 160), none⟩ : IOper) ::
                   (⟨(some 162), .load none (.t 161), none⟩ : IOper) ::
                   (⟨(some 163), .mov (.t 14), none⟩ : IOper) ::
                   (⟨(some 164), .bin .eql (.t 162) (.t 163), none⟩ : IOper) ::
                   (⟨(some 165), .mov (.t 164), none⟩ : IOper) ::
                   (⟨(some 166), .mov (.t 0), (some (165, true))⟩ : IOper) ::
                   (⟨(some 167), .mov (.t 15), (some (165, true))⟩ : IOper) ::
                   (⟨(some 168), .mov (.t 15), (some (165, true))⟩ : IOper) ::
                   (⟨(some 169), .mov (.t 5), (some (165, true))⟩ : IOper) ::
                   (⟨(some 170), .bin .add (.t 168) (.t 169), (some (165, true))⟩ : IOper) ::
                   (⟨(some 171), .slice 1 (.t 166) (some (.t 167)) (some (.t 170)) none, (some (165, true))⟩ : IOper) ::
                   (⟨(some 172), .mov (.t 1), (some (165, true))⟩ : IOper) ::
                   (⟨(some 173), .call false (.f 49) [(.t 171), (.t 172)], (some (165, true))⟩ : IOper) ::
                   (⟨(some 174), .pick (.t 165) (.t 173) (.c (.kb false)), none⟩ : IOper) ::
                   [])))
                 (.cond (.t 174)
                  (.seq
                   (.keep [15]
                   (.reg ((⟨(some 175), .mov (.t 15), none⟩ : IOper) ::
                     (⟨(some 4), .mov (.t 175), none⟩ : IOper) ::
                     [])))
                   .ret)
                  .skip))
                (.seq
                 (.keep [0, 1, 5, 13, 14, 15, 16, 17]
                 (.reg ((⟨(some 176), .mov (.t 15), none⟩ : IOper) ::
                   (⟨(some 177), .bin .add (.t 176) (.c (.int .i64 1)), none⟩ : IOper) ::
                   (⟨(some 15), .mov (.t 177), none⟩ : IOper) ::
                   [])))
                 (.seq
                  (.reg ((⟨(some 178), .mov (.t 16), none⟩ : IOper) ::
                    (⟨(some 179), .bin .add (.t 178) (.c (.int .i64 1)), none⟩ : IOper) ::
                    (⟨(some 16), .mov (.t 179), none⟩ : IOper) ::
                    []))
                  (.seq
                   (.keep [0, 1, 5, 13, 14, 15, 16, 17]
                   (.reg ((⟨(some 180), .mov (.t 16), none⟩ : IOper) ::
                     (⟨(some 181), .mov (.t 15), none⟩ : IOper) ::
                     (⟨(some 182), .bin .shr (.t 181) (.c (.int .u64 4)), none⟩ : IOper) ::
                     (⟨(some 183), .bin .add (.c (.int .i64 4)) (.t 182), none⟩ : IOper) ::
                     (⟨(some 184), .bin .geq (.t 180) (.t 183), none⟩ : IOper) ::
                     (⟨(some 185), .mov (.t 184), none⟩ : IOper) ::
                     (⟨(some 186), .mov (.t 15), (some (185, true))⟩ : IOper) ::
                     (⟨(some 187), .mov (.t 17), (some (185, true))⟩ : IOper) ::
                     (⟨(some 188), .bin .lss (.t 186) (.t 187), (some (185, true))⟩ : IOper) ::
                     (⟨(some 189), .pick (.t 185) (.t 188) (.c (.kb false)), none⟩ : IOper) ::
                     [])))
                   (.cond (.t 189)
                    (.seq
                     (.keep [0, 1, 15]
                     (.reg ((⟨(some 190), .mov (.t 0), none⟩ : IOper) ::
                       (⟨(some 191), .mov (.t 15), none⟩ : IOper) ::
                       (⟨(some 192), .slice 1 (.t 190) (some (.t 191)) none none, none⟩ : IOper) ::
                       (⟨(some 193), .mov (.t 1), none⟩ : IOper) ::
                       (⟨(some 194), .call false (.f 152) [(.t 192), (.t 193)], none⟩ : IOper) ::
                       (⟨(some 19), .mov (.t 194), none⟩ : IOper) ::
                       [])))
                     (.seq
                      (.seq
                       (.reg ((⟨(some 195), .mov (.t 19), none⟩ : IOper) ::
                         (⟨(some 196), .bin .lss (.t 195) (.c (.int .i64 0)), none⟩ : IOper) ::
                         []))
                       (.cond (.t 196)
                        (.seq
                         (.keep []
                         (.reg ((⟨(some 4), .mov (.c (.int .i64 (-1))), none⟩ : IOper) ::
                           [])))
                         .ret)
                        .skip))
                      (.seq
                       (.keep [15, 19]
                       (.reg ((⟨(some 197), .mov (.t 15), none⟩ : IOper) ::
                         (⟨(some 198), .mov (.t 19), none⟩ : IOper) ::
                         (⟨(some 199), .bin .add (.t 197) (.t 198), none⟩ : IOper) ::
                         (⟨(some 4), .mov (.t 199), none⟩ : IOper) ::
                         [])))
                       .ret)))
                    .skip))))))))))
          (.seq
           (.keep []
           (.reg ((⟨(some 4), .mov (.c (.int .i64 (-1))), none⟩ : IOper) ::
             [])))
           .ret))))))))))
def rd_bytes_Index : List RD := [.tmp 4 true none]
theorem ok_bytes_Index : fnOk Tryd.prog Tryd.f123 ir_bytes_Index rd_bytes_Index = true := by kernel_rfl
def S_bytes_Index : List AV → List Obj → Option (Prop × AV)
  | [.imm (.int .u8) s, .imm (.int .u8) t], [] => some ((t.length = 1, .int .i64 (idxA (t.getD 0 0) s 0)))
  | _, _ => none
theorem snd_bytes_Index : SoundS Tryd.prog 123 (RoF S_bytes_Index).sum := by
  refine ro_fn Tryd.func123 ok_bytes_Index (env_cons (s := RoF S_bytes_IndexByte) snd_bytes_IndexByte (env_nil _)) fun args objs p v e => ?_
  unfold S_bytes_Index at e
  split at e
  · rename_i s t
    cases e
    refine ⟨rfl, fun hw ho hp => ?_⟩
    change List Int at s
    change List Int at t
    have hi : ((0 : Int)).toNat = 0 := rfl
    repeat' (intro t ht; first | (cases t <;> first | (cases ht; done) | ((try simp only [Bool.not_eq_eq_eq_not, Bool.not_true, Bool.not_false, Bool.and_eq_true, Bool.and_eq_false_iff, decide_eq_true_eq, decide_eq_false_iff_not] at ht); (try simp only [Int.toNat_natCast, dflt_int] at ht); (try (exfalso; first | contradiction | omega)))) | (refine ht ?_ ?_ <;> clear ht) | (refine ht.1 ?_ ?_ <;> clear ht) | (refine ht ?_; clear ht))
    all_goals first
      | exact True.intro
      | exact ⟨rfl, rfl⟩
      | ((try simp only [Int.toNat_natCast, dflt_int, decide_eq_true_eq, decide_eq_false_iff_not, Bool.not_eq_eq_eq_not, Bool.not_true, Bool.not_false, Bool.and_eq_true, Bool.and_eq_false_iff, min_i64, max_i64, min_u64, max_u64, min_u32, max_u32, min_u16, max_u16, min_u8, max_u8] at *); omega)
      | trace_state
  · cases e
def ctB (s : List Int) (c : Int) : List Int := if 0 ≤ idxA c s 0 then s.take (idxA c s 0).toNat else s
def ctR (s : List Int) (c : Int) : List Int := if 0 ≤ idxA c s 0 then s.drop (idxA c s 0 + 1).toNat else []
def ctK (s : List Int) (c : Int) : Bool := decide (0 ≤ idxA c s 0)
def ir_bytes_Cut : IR :=
 (.seq
  (.keep [0, 1]
  (.reg ((⟨(some 4), .mov (.c (.imm (.int .u8) [])), none⟩ : IOper) ::
    (⟨(some 5), .mov (.c (.imm (.int .u8) [])), none⟩ : IOper) ::
    (⟨(some 6), .mov (.c (.kb false)), none⟩ : IOper) ::
    [])))
  (.seq
   (.seq
    (.reg ((⟨(some 8), .mov (.t 0), none⟩ : IOper) ::
      (⟨(some 9), .mov (.t 1), none⟩ : IOper) ::
      (⟨(some 10), .call false (.f 123) [(.t 8), (.t 9)], none⟩ : IOper) ::
      (⟨(some 7), .mov (.t 10), none⟩ : IOper) ::
      []))
    (.seq
     (.keep [0, 1, 7]
     (.reg ((⟨(some 11), .mov (.t 7), none⟩ : IOper) ::
       (⟨(some 12), .bin .geq (.t 11) (.c (.int .i64 0)), none⟩ : IOper) ::
       [])))
     (.cond (.t 12)
      (.seq
       (.keep [0, 1, 7]
       (.regD (((⟨(some 13), .mov (.t 0), none⟩, []) : IOper × List Nat) ::
         ((⟨(some 14), .mov (.t 7), none⟩, [0]) : IOper × List Nat) ::
         ((⟨(some 15), .slice 1 (.t 13) none (some (.t 14)) none, none⟩, []) : IOper × List Nat) ::
         ((⟨(some 16), .mov (.t 0), none⟩, [0, 0, 0]) : IOper × List Nat) ::
         ((⟨(some 17), .mov (.t 7), none⟩, [0, 0, 0, 0]) : IOper × List Nat) ::
         ((⟨(some 18), .mov (.t 1), none⟩, [0, 0, 0, 0, 0]) : IOper × List Nat) ::
         ((⟨(some 19), .len (.t 18), none⟩, [1, 0, 0, 0, 0]) : IOper × List Nat) ::
         ((⟨(some 20), .bin .add (.t 17) (.t 19), none⟩, [3, 0, 0, 0]) : IOper × List Nat) ::
         ((⟨(some 21), .slice 1 (.t 16) (some (.t 20)) none none, none⟩, [5, 0, 0]) : IOper × List Nat) ::
         ((⟨(some 4), .mov (.t 15), none⟩, [0, 0, 0, 0, 0, 0]) : IOper × List Nat) ::
         ((⟨(some 5), .mov (.t 21), none⟩, []) : IOper × List Nat) ::
         ((⟨(some 6), .mov (.c (.kb true)), none⟩, []) : IOper × List Nat) ::
         [])))
       .ret)
      .skip)))
   (.seq
    (.keep [0]
    (.reg ((⟨(some 22), .mov (.t 0), none⟩ : IOper) ::
      (⟨(some 4), .mov (.t 22), none⟩ : IOper) ::
      (⟨(some 5), .mov (.c (.imm (.int .u8) [])), none⟩ : IOper) ::
      (⟨(some 6), .mov (.c (.kb false)), none⟩ : IOper) ::
      [])))
    .ret)))
def rd_bytes_Cut : List RD := [.tmp 4 true (some (.int .u8)), .tmp 5 true (some (.int .u8)), .tmp 6 true none]
theorem ok_bytes_Cut : fnOk Tryd.prog Tryd.f92 ir_bytes_Cut rd_bytes_Cut = true := by kernel_rfl
def S_bytes_Cut : List AV → List Obj → Option (Prop × AV)
  | [.imm (.int .u8) s, .imm (.int .u8) t], [] => some ((t.length = 1, .tup [.imm (.int .u8) (ctB s (t.getD 0 0)), .imm (.int .u8) (ctR s (t.getD 0 0)), .bool (ctK s (t.getD 0 0))]))
  | _, _ => none
theorem snd_bytes_Cut : SoundS Tryd.prog 92 (RoF S_bytes_Cut).sum := by
  refine ro_fn Tryd.func92 ok_bytes_Cut (env_cons (s := RoF S_bytes_Index) snd_bytes_Index (env_nil _)) fun args objs p v e => ?_
  unfold S_bytes_Cut at e
  split at e
  · rename_i s t
    cases e
    refine ⟨rfl, fun hw ho hp => ?_⟩
    change List Int at s
    change List Int at t
    have hl : s.length ≤ maxLen := (hw (.imm (.int .u8) s) (by simp)).2
    unfold maxLen at hl
    clear hw ho
    have h := idxA_le (c := t.getD 0 0) s 0 (Int.le_refl _)
    repeat' (intro t ht; first | (cases t <;> first | (cases ht; done) | ((try simp only [Bool.not_eq_eq_eq_not, Bool.not_true, Bool.not_false, Bool.and_eq_true, Bool.and_eq_false_iff, decide_eq_true_eq, decide_eq_false_iff_not] at ht); (try simp only [Int.toNat_natCast, dflt_int] at ht); (try (exfalso; first | contradiction | omega)))) | (refine ht ?_ ?_ <;> clear ht) | (refine ht.1 ?_ ?_ <;> clear ht) | (refine ht ?_; clear ht))
    all_goals first
      | exact True.intro
      | exact hp
      | ((try simp only [Int.toNat_natCast, dflt_int, decide_eq_true_eq, decide_eq_false_iff_not, Bool.not_eq_eq_eq_not, Bool.not_true, Bool.not_false, Bool.and_eq_true, Bool.and_eq_false_iff, min_i64, max_i64, min_u64, max_u64, min_u32, max_u32, min_u16, max_u16, min_u8, max_u8] at *); omega)
      | (refine ⟨?_, rfl⟩; unfold ctB ctR ctK; rw [if_pos (by assumption), if_pos (by assumption), decide_eq_true (by assumption), hp]; rfl)
      | (refine ⟨?_, rfl⟩; unfold ctB ctR ctK; rw [if_neg (by assumption), if_neg (by assumption), decide_eq_false (by assumption)]; done)
      | trace_state
  · cases e
end Go.Eng
