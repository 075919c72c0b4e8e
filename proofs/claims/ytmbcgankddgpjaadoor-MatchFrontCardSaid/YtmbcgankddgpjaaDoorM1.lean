/- Contracts of functions of the given program, told by plain Lean functions. No condition. -/
import Derived.Test.YtmbcgankddgpjaaDoorProg
import Derived.Test.YtmbcgankddgpjaaDoorEArg
import Derived.KernelRfl
import Derived.Test.YtmbcgankddgpjaaDoorOI
namespace Go.Eng
open Go.Proofs
set_option linter.unusedVariables false
set_option linter.unusedSimpArgs false
set_option maxRecDepth 100000
set_option maxHeartbeats 1000000
/-- The first place of what is so; -1: there is none. -/
def idxP {α : Type} (p : α → Bool) : List α → Int → Int
  | [], _ => -1
  | o :: r, i => if p o = true then i else idxP p r (i + 1)
theorem idxP_end {α : Type} {p : α → Bool} {l : List α} {i : Nat} (h : l.length ≤ i) : idxP p (l.drop i) i = -1 := by
  rw [List.drop_of_length_le h]; rfl
theorem idxP_at {α : Type} {p : α → Bool} {l : List α} {i : Nat} {d : α} (h : i < l.length) (hk : p (l.getD i d) = true) : idxP p (l.drop i) i = i := by
  rw [drop_step h d]; exact if_pos hk
theorem idxP_ne {α : Type} {p : α → Bool} {l : List α} {i : Nat} {d : α} (h : i < l.length) (hk : p (l.getD i d) = false) : idxP p (l.drop i) i = idxP p (l.drop (i + 1)) ((i + 1 : Nat) : Int) := by
  rw [drop_step h d]; exact if_neg (by rw [hk]; decide)
theorem idxP_any {α : Type} {p : α → Bool} : ∀ (l : List α) (i : Int), 0 ≤ i → decide (0 ≤ idxP p l i) = l.any p
  | [], i, h => rfl
  | o :: r, i, h => by
    unfold idxP
    rw [List.any_cons]
    cases hk : p o with
    | true => rw [if_pos rfl, decide_eq_true h]; rfl
    | false => rw [if_neg (by decide), idxP_any r (i + 1) (by omega)]; rfl
def nzB (c : Int) : Bool := decide (c ≠ 0)
abbrev OV := Int × Int × Bool × Int × List Int × List Int × Unit
instance : DecidableEq (Int × List Int × List Int × Unit) := inferInstance
instance : DecidableEq OV := inferInstance
/-- The number that bytes are, by 64 bits. -/
def numW (b : List Int) : Int := b.foldl (fun n c => bitop .or .u64 (IntKind.u64.wrap (n * 2 ^ min (Int.toNat 8) IntKind.u64.bits)) (IntKind.u64.wrap c)) 0
theorem numW_step {b : List Int} {i : Nat} (h : i < b.length) : numW (b.take (i + 1)) = bitop .or .u64 (IntKind.u64.wrap (numW (b.take i) * 2 ^ min (Int.toNat 8) IntKind.u64.bits)) (IntKind.u64.wrap (b.getD i 0)) := by
  unfold numW
  rw [List.take_succ_eq_append_getElem h, List.foldl_append, List.getD_eq_getElem?_getD, List.getElem?_eq_getElem h]; rfl
def ir_need_number : IR :=
(.seq
(.keep [0, 1]
(.reg (oD 4 (.mov (.c (.int .u64 0))) ::
oD 5 (.mov cF) ::
[])))
(.seq
(.seq
(.reg (oM 8 0 ::
oD 9 (.len (.t 8)) ::
oD 10 (.mov (cI 0)) ::
[]))
(.block 0
(.loop
(.seq
(.keep [0, 1, 4, 8, 9, 10]
(.reg (oD 11 (.bin .lss (.t 10) (.t 9)) ::
[])))
(.seq
(.cond (.t 11)
.skip
(.exit 0))
(.seq
(.block 1
(.seq
(.reg (oD 12 (.indexSl 1 (.t 8) (.t 10)) ::
oL 13 12 ::
oM 7 13 ::
[]))
(.keep [0, 1, 4, 7, 8, 9, 10]
(.reg (oM 14 4 ::
oD 15 (.bin .shl (.t 14) (.c (.int .u64 8))) ::
oM 16 7 ::
oD 17 (.conv .u64 (.t 16)) ::
oD 18 (.bin .or (.t 15) (.t 17)) ::
oM 4 18 ::
[])))))
(.keep [0, 1, 4, 8, 9, 10]
(.reg (oD 19 (.bin .add (.t 10) (cI 1)) ::
oM 10 19 ::
[])))))))))
(.seq
(.keep [0, 1, 4]
(.reg (oM 20 4 ::
oM 21 0 ::
oD 22 (.len (.t 21)) ::
oM 23 1 ::
oD 24 (.bin .eql (.t 22) (.t 23)) ::
oM 4 20 ::
oM 5 24 ::
[])))
.ret)))
def rd_need_number : List RD := [.tmp 4 true none, .tmp 5 true none]
theorem ok_need_number : fnOk Tryd.prog Tryd.f119 ir_need_number rd_need_number = true := by kernel_rfl
def S_need_number : List AV → List Obj → Option (Prop × AV)
  | [.imm (.int .u8) b, .int .i64 z], [] => some ((True, .tup [.int .u64 (numW b), .bool (decide ((b.length : Int) = z))]))
  | _, _ => none
theorem snd_need_number : SoundS Tryd.prog 119 (RoF S_need_number).sum := by
  refine ro_fn Tryd.func119 ok_need_number (env_nil _) fun args objs p v e => ?_
  unfold S_need_number at e
  split at e
  · rename_i b z
    cases e
    refine ⟨rfl, fun hw ho hp => ?_⟩
    change List Int at b
    have hl : b.length ≤ maxLen := (hw (.imm (.int .u8) b) (by simp)).2
    unfold maxLen at hl
    clear hw ho
    repeat' (intro t ht; first | (cases t <;> first | (cases ht; done) | ((try simp only [bn_s] at ht); (try simp only [nd_s] at ht))) | (refine ht ?_ ?_ <;> clear ht) | (refine ht.1 ?_ ?_ <;> clear ht) | (refine ht ?_; clear ht))
    all_goals first
      | (intro r h1 h2; clear h1; refine h2 ⟨[0, 1, 4, 8, 9, 10], Nat, (fun i => i ≤ b.length), fun i => [.imm (.int .u8) b, .int .i64 z, .int .u64 (numW (b.take i)), .imm (.int .u8) b, .int .i64 b.length, .int .i64 i], fun _ => [], fun i => b.length - i, ⟨0, Nat.zero_le _, rfl, rfl⟩, ?_⟩; clear h2)
    intro i hi
    repeat' (intro t ht; first | (cases t <;> first | (cases ht; done) | ((try simp only [bn_s] at ht); (try simp only [nd_s] at ht))) | (refine ht ?_ ?_ <;> clear ht) | (refine ht.1 (by simp only [mm_s]; omega) ?_; clear ht) | (refine ht.2 ?_; clear ht) | (refine ht ?_; clear ht))
    all_goals first
      | exact True.intro
      | ((try simp only [nd_s, bn_s, mm_s] at *); omega)
      | (have hge : b.length ≤ i := by omega
         rw [List.take_of_length_le hge]; exact ⟨rfl, rfl⟩)
      | exact (by decide)
      | (refine ⟨i + 1, by omega, by dsimp only; omega, ?_, rfl⟩
         dsimp only
         rw [numW_step (by omega)]; rfl)
      | trace_state
  · cases e
def ir_need_meets_1 : IR :=
(.seq
(.keep [0]
(.reg (oD 2 (.mov cF) ::
[])))
(.seq
(.reg (oM 3 0 ::
oD 4 (.bin .neq (.t 3) (.c (.int .u8 0))) ::
oM 2 4 ::
[]))
.ret))
def rd_need_meets_1 : List RD := [.tmp 2 true none]
theorem ok_need_meets_1 : fnOk Tryd.prog Tryd.f118 ir_need_meets_1 rd_need_meets_1 = true := by kernel_rfl
def S_need_meets_1 : List AV → List Obj → Option (Prop × AV)
  | [.int .u8 b], [] => some ((True, .bool (nzB b)))
  | _, _ => none
theorem snd_need_meets_1 : SoundS Tryd.prog 118 (RoF S_need_meets_1).sum := by
  refine ro_fn Tryd.func118 ok_need_meets_1 (env_nil _) fun args objs p v e => ?_
  unfold S_need_meets_1 at e
  split at e
  · rename_i b
    cases e
    refine ⟨rfl, fun hw ho hp => ?_⟩
    repeat' (intro t ht; first | (cases t <;> first | (cases ht; done) | ((try simp only [bn_s] at ht); (try simp only [nd_s] at ht); (try (exfalso; first | contradiction | omega)))) | (refine ht ?_ ?_ <;> clear ht) | (refine ht.1 ?_ ?_ <;> clear ht) | (refine ht ?_; clear ht))
    all_goals first
      | exact True.intro
      | (refine ⟨congrArg AV.bool ?_, rfl⟩; unfold nzB; simp; done)
      | trace_state
  · cases e
def ir_slices_IndexFunc_byte_byte : IR :=
(.seq
(.keep [0, 1]
(.reg (oD 4 (.mov (cI 0)) ::
[])))
(.seq
(.seq
(.reg (oM 6 0 ::
oD 7 (.len (.t 6)) ::
oD 8 (.mov (cI 0)) ::
[]))
(.block 0
(.loop
(.seq
(.keep [0, 1, 7, 8]
(.reg (oD 9 (.bin .lss (.t 8) (.t 7)) ::
[])))
(.seq
(.cond (.t 9)
.skip
(.exit 0))
(.seq
(.block 1
(.seq
(.reg (oM 10 8 ::
oM 5 10 ::
[]))
(.seq
(.keep [0, 1, 5, 7, 8]
(.reg (oM 11 1 ::
oM 12 0 ::
oM 13 5 ::
oD 14 (.indexSl 1 (.t 12) (.t 13)) ::
oL 15 14 ::
oD 16 (.call false (.t 11) [(.t 15)]) ::
[])))
(.cond (.t 16)
(.seq
(.keep [5]
(.reg (oM 17 5 ::
oM 4 17 ::
[])))
.ret)
.skip))))
(.keep [0, 1, 7, 8]
(.reg (oD 18 (.bin .add (.t 8) (cI 1)) ::
oM 8 18 ::
[])))))))))
(.seq
(.keep []
(.reg (oD 4 (.mov (cI (-1))) ::
[])))
.ret)))
def rd_slices_IndexFunc_byte_byte : List RD := [.tmp 4 true none]
theorem ok_slices_IndexFunc_byte_byte : fnOk Tryd.prog Tryd.f130 ir_slices_IndexFunc_byte_byte rd_slices_IndexFunc_byte_byte = true := by kernel_rfl
def S_slices_IndexFunc_byte_byte : List AV → List Obj → Option (Prop × AV)
  | [.imm (.int .u8) l, .fn 118 [] []], [] => some ((True, .int .i64 (idxP nzB l 0)))
  | _, _ => none
theorem snd_slices_IndexFunc_byte_byte : SoundS Tryd.prog 130 (RoF S_slices_IndexFunc_byte_byte).sum := by
  refine ro_fn Tryd.func130 ok_slices_IndexFunc_byte_byte (env_cons (s := RoF S_need_meets_1) snd_need_meets_1 (env_nil _)) fun args objs p v e => ?_
  unfold S_slices_IndexFunc_byte_byte at e
  split at e
  · rename_i l
    cases e
    refine ⟨rfl, fun hw ho hp => ?_⟩
    change List Int at l
    have hl : l.length ≤ maxLen := (hw (.imm (.int .u8) l) (by simp)).2
    unfold maxLen at hl
    clear hw ho
    repeat' (intro t ht; first | (cases t <;> first | (cases ht; done) | ((try simp only [bn_s] at ht); (try simp only [nd_s] at ht))) | (refine ht ?_ ?_ <;> clear ht) | (refine ht.1 ?_ ?_ <;> clear ht) | (refine ht ?_; clear ht))
    all_goals first
      | (intro r h1 h2; clear h1; refine h2 ⟨[0, 1, 7, 8], Nat, (fun i => i ≤ l.length ∧ idxP nzB l 0 = idxP nzB (l.drop i) i), fun i => [.imm (.int .u8) l, .fn 118 [] [], .int .i64 l.length, .int .i64 i], fun _ => [], fun i => l.length - i, ⟨0, ⟨Nat.zero_le _, rfl⟩, rfl, rfl⟩, ?_⟩; clear h2)
    rintro i ⟨hi, he⟩
    repeat' (intro t ht; first | (cases t <;> first | (cases ht; done) | ((try simp only [bn_s] at ht); (try simp only [nd_s] at ht); (try (exfalso; first | contradiction | omega)))) | (refine ht ?_ ?_ <;> clear ht) | (refine ht.1 ?_ ?_ <;> clear ht) | (refine ht ?_; clear ht))
    all_goals first
      | exact True.intro
      | ((try simp only [nd_s, bn_s, mm_s] at *); omega)
      | (refine ⟨?_, rfl⟩; rw [he, idxP_end (by omega)]; done)
      | (refine ⟨?_, rfl⟩; rw [he, idxP_at (d := 0) (by omega) (by assumption)]; done)
      | exact ⟨i + 1, ⟨by omega, he.trans (idxP_ne (d := 0) (by omega) (by assumption))⟩, by dsimp only; omega, rfl, rfl⟩
      | trace_state
  · cases e
def ir_slices_ContainsFunc_byte_byte : IR :=
(.seq
(.keep [0, 1]
(.reg (oD 4 (.mov cF) ::
[])))
(.seq
(.keep [0, 1]
(.reg (oM 5 0 ::
oM 6 1 ::
oD 7 (.call false (.f 130) [(.t 5), (.t 6)]) ::
oD 8 (.bin .geq (.t 7) (cI 0)) ::
oM 4 8 ::
[])))
.ret))
def rd_slices_ContainsFunc_byte_byte : List RD := [.tmp 4 true none]
theorem ok_slices_ContainsFunc_byte_byte : fnOk Tryd.prog Tryd.f117 ir_slices_ContainsFunc_byte_byte rd_slices_ContainsFunc_byte_byte = true := by kernel_rfl
def S_slices_ContainsFunc_byte_byte : List AV → List Obj → Option (Prop × AV)
  | [.imm (.int .u8) l, .fn 118 [] []], [] => some ((True, .bool (l.any nzB)))
  | _, _ => none
theorem snd_slices_ContainsFunc_byte_byte : SoundS Tryd.prog 117 (RoF S_slices_ContainsFunc_byte_byte).sum := by
  refine ro_fn Tryd.func117 ok_slices_ContainsFunc_byte_byte (env_cons (s := RoF S_need_meets_1) snd_need_meets_1 (env_cons (s := RoF S_slices_IndexFunc_byte_byte) snd_slices_IndexFunc_byte_byte (env_nil _))) fun args objs p v e => ?_
  unfold S_slices_ContainsFunc_byte_byte at e
  split at e
  · rename_i l
    cases e
    refine ⟨rfl, fun hw ho hp => ?_⟩
    change List Int at l
    have h := idxP_any (p := nzB) l 0 (Int.le_refl _)
    repeat' (intro t ht; first | (cases t <;> first | (cases ht; done) | ((try simp only [bn_s] at ht); (try simp only [nd_s] at ht); (try (exfalso; first | contradiction | omega)))) | (refine ht ?_ ?_ <;> clear ht) | (refine ht.1 ?_ ?_ <;> clear ht) | (refine ht ?_; clear ht))
    all_goals first
      | exact True.intro
      | exact ⟨congrArg AV.bool h, rfl⟩
      | trace_state
  · cases e
def ir_slices_Index_uint64_uint64 : IR :=
(.seq
(.keep [0, 1]
(.reg (oD 4 (.mov (cI 0)) ::
[])))
(.seq
(.seq
(.reg (oM 6 0 ::
oD 7 (.len (.t 6)) ::
oD 8 (.mov (cI 0)) ::
[]))
(.block 0
(.loop
(.seq
(.keep [0, 1, 7, 8]
(.reg (oD 9 (.bin .lss (.t 8) (.t 7)) ::
[])))
(.seq
(.cond (.t 9)
.skip
(.exit 0))
(.seq
(.block 1
(.seq
(.reg (oM 10 8 ::
oM 5 10 ::
[]))
(.seq
(.keep [0, 1, 5, 7, 8]
(.reg (oM 11 1 ::
oM 12 0 ::
oM 13 5 ::
oD 14 (.indexSl 1 (.t 12) (.t 13)) ::
oL 15 14 ::
oD 16 (.bin .eql (.t 11) (.t 15)) ::
[])))
(.cond (.t 16)
(.seq
(.keep [5]
(.reg (oM 17 5 ::
oM 4 17 ::
[])))
.ret)
.skip))))
(.keep [0, 1, 7, 8]
(.reg (oD 18 (.bin .add (.t 8) (cI 1)) ::
oM 8 18 ::
[])))))))))
(.seq
(.keep []
(.reg (oD 4 (.mov (cI (-1))) ::
[])))
.ret)))
def rd_slices_Index_uint64_uint64 : List RD := [.tmp 4 true none]
theorem ok_slices_Index_uint64_uint64 : fnOk Tryd.prog Tryd.f131 ir_slices_Index_uint64_uint64 rd_slices_Index_uint64_uint64 = true := by kernel_rfl
def S_slices_Index_uint64_uint64 : List AV → List Obj → Option (Prop × AV)
  | [.imm (.int .u64) l, .int .u64 x], [] => some ((True, .int .i64 (idxP (fun y => decide (x = y)) l 0)))
  | _, _ => none
theorem snd_slices_Index_uint64_uint64 : SoundS Tryd.prog 131 (RoF S_slices_Index_uint64_uint64).sum := by
  refine ro_fn Tryd.func131 ok_slices_Index_uint64_uint64 (env_nil _) fun args objs p v e => ?_
  unfold S_slices_Index_uint64_uint64 at e
  split at e
  · rename_i l x
    cases e
    refine ⟨rfl, fun hw ho hp => ?_⟩
    change List Int at l
    have hl : l.length ≤ maxLen := (hw (.imm (.int .u64) l) (by simp)).2
    unfold maxLen at hl
    clear hw ho
    repeat' (intro t ht; first | (cases t <;> first | (cases ht; done) | ((try simp only [bn_s] at ht); (try simp only [nd_s] at ht))) | (refine ht ?_ ?_ <;> clear ht) | (refine ht.1 ?_ ?_ <;> clear ht) | (refine ht ?_; clear ht))
    all_goals first
      | (intro r h1 h2; clear h1; refine h2 ⟨[0, 1, 7, 8], Nat, (fun i => i ≤ l.length ∧ idxP (fun y => decide (x = y)) l 0 = idxP (fun y => decide (x = y)) (l.drop i) i), fun i => [.imm (.int .u64) l, .int .u64 x, .int .i64 l.length, .int .i64 i], fun _ => [], fun i => l.length - i, ⟨0, ⟨Nat.zero_le _, rfl⟩, rfl, rfl⟩, ?_⟩; clear h2)
    rintro i ⟨hi, he⟩
    repeat' (intro t ht; first | (cases t <;> first | (cases ht; done) | ((try simp only [bn_s] at ht); (try simp only [nd_s] at ht); (try (exfalso; first | contradiction | omega)))) | (refine ht ?_ ?_ <;> clear ht) | (refine ht.1 ?_ ?_ <;> clear ht) | (refine ht ?_; clear ht))
    all_goals first
      | exact True.intro
      | ((try simp only [nd_s, bn_s, mm_s] at *); omega)
      | (refine ⟨?_, rfl⟩; rw [he, idxP_end (by omega)]; done)
      | (refine ⟨?_, rfl⟩; rw [he, idxP_at (d := 0) (by omega) (show decide (x = l.getD i 0) = true from decide_eq_true (by assumption))]; done)
      | exact ⟨i + 1, ⟨by omega, he.trans (idxP_ne (d := 0) (by omega) (show decide (x = l.getD i 0) = false from decide_eq_false (by assumption)))⟩, by dsimp only; omega, rfl, rfl⟩
      | trace_state
  · cases e
def ir_slices_Contains_uint64_uint64 : IR :=
(.seq
(.keep [0, 1]
(.reg (oD 4 (.mov cF) ::
[])))
(.seq
(.keep [0, 1]
(.reg (oM 5 0 ::
oM 6 1 ::
oD 7 (.call false (.f 131) [(.t 5), (.t 6)]) ::
oD 8 (.bin .geq (.t 7) (cI 0)) ::
oM 4 8 ::
[])))
.ret))
def rd_slices_Contains_uint64_uint64 : List RD := [.tmp 4 true none]
theorem ok_slices_Contains_uint64_uint64 : fnOk Tryd.prog Tryd.f120 ir_slices_Contains_uint64_uint64 rd_slices_Contains_uint64_uint64 = true := by kernel_rfl
def S_slices_Contains_uint64_uint64 : List AV → List Obj → Option (Prop × AV)
  | [.imm (.int .u64) l, .int .u64 x], [] => some ((True, .bool (l.any fun y => decide (x = y))))
  | _, _ => none
theorem snd_slices_Contains_uint64_uint64 : SoundS Tryd.prog 120 (RoF S_slices_Contains_uint64_uint64).sum := by
  refine ro_fn Tryd.func120 ok_slices_Contains_uint64_uint64 (env_cons (s := RoF S_slices_Index_uint64_uint64) snd_slices_Index_uint64_uint64 (env_nil _)) fun args objs p v e => ?_
  unfold S_slices_Contains_uint64_uint64 at e
  split at e
  · rename_i l x
    cases e
    refine ⟨rfl, fun hw ho hp => ?_⟩
    change List Int at l
    have h := idxP_any (p := fun y => decide (x = y)) l 0 (Int.le_refl _)
    repeat' (intro t ht; first | (cases t <;> first | (cases ht; done) | ((try simp only [bn_s] at ht); (try simp only [nd_s] at ht); (try (exfalso; first | contradiction | omega)))) | (refine ht ?_ ?_ <;> clear ht) | (refine ht.1 ?_ ?_ <;> clear ht) | (refine ht ?_; clear ht))
    all_goals first
      | exact True.intro
      | exact ⟨congrArg AV.bool h, rfl⟩
      | trace_state
  · cases e
/-- Is one what a field asks for, whose need and numbers these are? -/
def metV (n : Int) (vals : List Int) (c f : Int) (h : Bool) (v : List Int) : Bool := decide (c = 32768) && decide (f = n) && (if vals.length = 0 then v.any nzB else decide ((v.length : Int) = fSize n) && !h && vals.any fun y => decide (numW v = y))
def ir_need_meets : IR :=
(.seq
(.keep [0, 1]
(.reg (oD 2 (.boxv (.t 0)) ::
oD 3 (.boxv (.t 1)) ::
oD 4 (.mov cF) ::
[])))
(.seq
(.seq
(.keep [2, 3]
(.reg (oD 9 (.fieldAddr 0 (.t 2)) ::
oL 10 9 ::
oD 11 (.bin .neq (.t 10) (cI 32768)) ::
oM 12 11 ::
oF 12 13 (.fieldAddr 1 (.t 2)) ::
oF 12 14 (.load none (.t 13)) ::
oF 12 15 (.fieldAddr 3 (.t 3)) ::
oF 12 16 (.load none (.t 15)) ::
oF 12 17 (.bin .neq (.t 14) (.t 16)) ::
oD 18 (.pick (.t 12) cT (.t 17)) ::
[])))
(.cond (.t 18)
(.seq
(.keep []
(.reg (oD 4 (.mov cF) ::
[])))
.ret)
.skip))
(.seq
(.seq
(.keep [2, 3]
(.reg (oD 19 (.fieldAddr 4 (.t 3)) ::
oL 20 19 ::
oD 21 (.len (.t 20)) ::
oD 22 (.bin .eql (.t 21) (cI 0)) ::
[])))
(.cond (.t 22)
(.seq
(.reg (oD 23 (.fieldAddr 4 (.t 2)) ::
oL 24 23 ::
oD 25 (.call false (.f 117) [(.t 24), (.f 118)]) ::
oM 4 25 ::
[]))
.ret)
.skip))
(.seq
(.keep [2, 3]
(.reg (oD 27 (.fieldAddr 3 (.t 3)) ::
oL 28 27 ::
oD 29 (.call false (.f 98) [(.t 28)]) ::
oM 26 29 ::
oD 30 (.extract (.t 26) 0) ::
oD 31 (.extract (.t 26) 1) ::
oD 5 (.box [.int .i64 0, .int .i64 0, .kb false, .int .i64 0, .imm (.int .u64) []]) ::
oN (.store 5 (.t 5) (.t 30)) ::
oM 6 31 ::
[])))
(.seq
(.keep [2, 3, 5]
(.reg (oD 33 (.fieldAddr 4 (.t 2)) ::
oL 34 33 ::
oD 35 (.fieldAddr 1 (.t 5)) ::
oL 36 35 ::
oD 37 (.call false (.f 119) [(.t 34), (.t 36)]) ::
oM 32 37 ::
oD 38 (.extract (.t 32) 0) ::
oD 39 (.extract (.t 32) 1) ::
oM 7 38 ::
oM 8 39 ::
[])))
(.seq
(.keep [2, 3, 7, 8]
(.reg (oM 40 8 ::
oM 41 40 ::
oT 41 42 (.fieldAddr 2 (.t 2)) ::
oT 41 43 (.load none (.t 42)) ::
oT 41 44 (.un .not (.t 43)) ::
oD 45 (.pick (.t 41) (.t 44) cF) ::
oM 46 45 ::
oT 46 47 (.fieldAddr 4 (.t 3)) ::
oT 46 48 (.load none (.t 47)) ::
oT 46 49 (.mov (.t 7)) ::
oT 46 50 (.call false (.f 120) [(.t 48), (.t 49)]) ::
oD 51 (.pick (.t 46) (.t 50) cF) ::
oM 4 51 ::
[])))
.ret))))))
def rd_need_meets : List RD := [.tmp 4 true none]
theorem ok_need_meets : fnOk Tryd.prog Tryd.f104 ir_need_meets rd_need_meets = true := by kernel_rfl
def S_need_meets : List AV → List Obj → Option (Prop × AV)
  | [.agg [.int .i64 c, .int .i64 f, .bool h, .int .u64 x, .imm (.int .u8) v, .imm (.int .u8) m], .agg [.int .i64 bits, .int .i64 size, .bool mk, .int .i64 nd, .imm (.int .u64) vals]], [] => some ((True, .bool (metV nd vals c f h v)))
  | _, _ => none
theorem snd_need_meets : SoundS Tryd.prog 104 (RoF S_need_meets).sum := by
  refine ro_fn Tryd.func104 ok_need_meets (env_cons (s := RoF S_slices_ContainsFunc_byte_byte) snd_slices_ContainsFunc_byte_byte (env_cons (s := RoF S_need_meets_1) snd_need_meets_1 (env_cons (s := RoF S_field_Of) snd_field_Of (env_cons (s := RoF S_need_number) snd_need_number (env_cons (s := RoF S_slices_Contains_uint64_uint64) snd_slices_Contains_uint64_uint64 (env_nil _)))))) fun args objs p v e => ?_
  unfold S_need_meets at e
  split at e
  · rename_i c f h x v m bits size mk nd vals
    cases e
    refine ⟨rfl, fun hw ho hp => ?_⟩
    change List Int at v
    change List Int at m
    change List Int at vals
    clear hw ho
    by_cases h1 : c = 32768 ∧ f = nd
    · obtain ⟨rfl, rfl⟩ := h1
      have e : metV f vals 32768 f h v = if vals.length = 0 then v.any nzB else decide ((v.length : Int) = fSize f) && !h && vals.any fun y => decide (numW v = y) := by unfold metV; simp
      rw [e]
      cases h <;> by_cases h2 : vals.length = 0 <;> by_cases h3 : (v.length : Int) = fSize f
      all_goals repeat' (intro t ht; first | (cases t <;> first | (cases ht; done) | ((try simp only [bn_s] at ht); (try simp only [nd_s] at ht); (try (exfalso; first | contradiction | omega)))) | (refine ht ?_ ?_ <;> clear ht) | (refine ht.1 ?_ ?_ <;> clear ht) | (refine ht ?_; clear ht))
      all_goals first
        | exact True.intro
        | (refine ⟨congrArg AV.bool ?_, rfl⟩; simp_all; done)
        | (exfalso; simp_all; done)
        | trace_state
    · have e : metV nd vals c f h v = false := by unfold metV; by_cases h2 : c = 32768 <;> by_cases h3 : f = nd <;> simp_all
      rw [e]
      cases h <;> by_cases h2 : c = 32768 <;> by_cases h3 : f = nd
      all_goals repeat' (intro t ht; first | (cases t <;> first | (cases ht; done) | ((try simp only [bn_s] at ht); (try simp only [nd_s] at ht); (try (exfalso; first | contradiction | omega)))) | (refine ht ?_ ?_ <;> clear ht) | (refine ht.1 ?_ ?_ <;> clear ht) | (refine ht ?_; clear ht))
      all_goals first
        | exact True.intro
        | exact ⟨rfl, rfl⟩
        | (exfalso; omega)
        | (exfalso; simp_all; done)
        | trace_state
  · cases e
def ir_need_Met_1 : IR :=
(.seq
(.keep [0, 1]
(.reg (oD 2 (.boxv (.t 0)) ::
oD 3 (.mov cF) ::
[])))
(.seq
(.reg (oD 4 (.load (some 6) (.t 2)) ::
oD 5 (.load (some 5) (.t 1)) ::
oD 6 (.call false (.f 104) [(.t 4), (.t 5)]) ::
oM 3 6 ::
[]))
.ret))
def rd_need_Met_1 : List RD := [.tmp 3 true none]
theorem ok_need_Met_1 : fnOk Tryd.prog Tryd.f103 ir_need_Met_1 rd_need_Met_1 = true := by kernel_rfl
def S_need_Met_1 : List AV → List Obj → Option (Prop × AV)
  | [.agg [.int .i64 c, .int .i64 f, .bool h, .int .u64 x, .imm (.int .u8) v, .imm (.int .u8) m], .ptr 0 0], [.box [.int .i64 bits, .int .i64 size, .bool mk, .int .i64 nd, .imm (.int .u64) vals]] => some ((True, .bool (metV nd vals c f h v)))
  | _, _ => none
theorem snd_need_Met_1 : SoundS Tryd.prog 103 (RoF S_need_Met_1).sum := by
  refine ro_fn Tryd.func103 ok_need_Met_1 (env_cons (s := RoF S_need_meets) snd_need_meets (env_nil _)) fun args objs p v e => ?_
  unfold S_need_Met_1 at e
  split at e
  · rename_i c f h x v m bits size mk nd vals
    cases e
    refine ⟨rfl, fun hw ho hp => ?_⟩
    change List Int at v
    change List Int at m
    change List Int at vals
    clear hw ho
    repeat' (intro t ht; first | (cases t <;> first | (cases ht; done) | ((try simp only [bn_s] at ht); (try simp only [nd_s] at ht); (try (exfalso; first | contradiction | omega)))) | (refine ht ?_ ?_ <;> clear ht) | (refine ht.1 ?_ ?_ <;> clear ht) | (refine ht ?_; clear ht))
    all_goals first
      | exact True.intro
      | exact ⟨rfl, rfl⟩
      | trace_state
  · cases e
def ir_need_Check_1 : IR :=
(.seq
(.keep [0, 1]
(.reg (oD 2 (.boxv (.t 0)) ::
oD 3 (.mov cF) ::
[])))
(.seq
(.reg (oD 4 (.load (some 6) (.t 2)) ::
oD 5 (.load (some 6) (.t 1)) ::
oD 6 (.call false (.f 79) [(.t 4), (.t 5)]) ::
oM 3 6 ::
[]))
.ret))
def rd_need_Check_1 : List RD := [.tmp 3 true none]
theorem ok_need_Check_1 : fnOk Tryd.prog Tryd.f78 ir_need_Check_1 rd_need_Check_1 = true := by kernel_rfl
def S_need_Check_1 : List AV → List Obj → Option (Prop × AV)
  | [.agg [.int .i64 c, .int .i64 f, .bool h, .int .u64 x, .imm (.int .u8) v, .imm (.int .u8) m], .ptr 0 0], [.box [.int .i64 c', .int .i64 f', .bool h', .int .u64 x', .imm (.int .u8) v', .imm (.int .u8) m']] => some ((True, .bool (decide (c = c') && decide (f = f') && decide (x = x'))))
  | _, _ => none
theorem snd_need_Check_1 : SoundS Tryd.prog 78 (RoF S_need_Check_1).sum := by
  refine ro_fn Tryd.func78 ok_need_Check_1 (env_cons (s := RoF S_oxm_Alike) snd_oxm_Alike (env_nil _)) fun args objs p v e => ?_
  unfold S_need_Check_1 at e
  split at e
  · rename_i c f h x v m c' f' h' x' v' m'
    cases e
    refine ⟨rfl, fun hw ho hp => ?_⟩
    change List Int at v
    change List Int at m
    change List Int at v'
    change List Int at m'
    clear hw ho
    repeat' (intro t ht; first | (cases t <;> first | (cases ht; done) | ((try simp only [bn_s] at ht); (try simp only [nd_s] at ht); (try (exfalso; first | contradiction | omega)))) | (refine ht ?_ ?_ <;> clear ht) | (refine ht.1 ?_ ?_ <;> clear ht) | (refine ht ?_; clear ht))
    all_goals first
      | exact True.intro
      | exact ⟨rfl, rfl⟩
      | trace_state
  · cases e
def rgO (o : OV) : Bool := rightO o.1 o.2.1 o.2.2.1 o.2.2.2.1 o.2.2.2.2.1 o.2.2.2.2.2.1
def szO (o : OV) : Int := sizeO o.1 o.2.1 o.2.2.1 o.2.2.2.1 o.2.2.2.2.1 o.2.2.2.2.2.1
def ecO (o : OV) : List Int := refB o.1 o.2.1 o.2.2.1 o.2.2.2.1 o.2.2.2.2.1 o.2.2.2.2.2.1
def alO (x o : OV) : Bool := decide (x.1 = o.1) && decide (x.2.1 = o.2.1) && decide (x.2.2.2.1 = o.2.2.2.1)
theorem alO_f {x o : OV} (h : (¬ x.1 = o.1 ∨ ¬ x.2.1 = o.2.1) ∨ ¬ x.2.2.2.1 = o.2.2.2.1) : alO x o = false := by
  unfold alO
  rcases h with (h | h) | h <;> simp [h]
theorem alO_t {x o : OV} (h : (x.1 = o.1 ∧ x.2.1 = o.2.1) ∧ x.2.2.2.1 = o.2.2.2.1) : alO x o = true := by
  unfold alO; rw [h.1.1, h.1.2, h.2]; simp
def mtO (n : Int) (vals : List Int) (o : OV) : Bool := metV n vals o.1 o.2.1 o.2.2.1 o.2.2.2.2.1
def lenO (o : OV) : Prop := o.2.2.2.2.1.length ≤ 100000 ∧ o.2.2.2.2.2.1.length ≤ 100000
theorem lenM {o : OV} (h : lenO o) : o.2.2.2.2.1.length ≤ 1000000 ∧ o.2.2.2.2.2.1.length ≤ 1000000 := ⟨Nat.le_trans h.1 (by decide), Nat.le_trans h.2 (by decide)⟩
structure allLen (l : List OV) : Prop where
  h : ∀ o ∈ l, lenO o
def ir_match_Right_1 : IR :=
(.seq
(.keep [0]
(.reg (oD 1 (.boxv (.t 0)) ::
oD 2 (.mov cF) ::
[])))
(.seq
(.reg (oD 3 (.load (some 6) (.t 1)) ::
oD 4 (.call false (.f 52) [(.t 3)]) ::
oD 5 (.un .not (.t 4)) ::
oM 2 5 ::
[]))
.ret))
def rd_match_Right_1 : List RD := [.tmp 2 true none]
theorem ok_match_Right_1 : fnOk Tryd.prog Tryd.f51 ir_match_Right_1 rd_match_Right_1 = true := by kernel_rfl
def S_match_Right_1 : List AV → List Obj → Option (Prop × AV)
  | [.agg [.int .i64 c, .int .i64 f, .bool h, .int .u64 x, .imm (.int .u8) v, .imm (.int .u8) m]], [] => some ((v.length ≤ 1000000 ∧ m.length ≤ 1000000, .bool (!rightO c f h x v m)))
  | _, _ => none
theorem snd_match_Right_1 : SoundS Tryd.prog 51 (RoF S_match_Right_1).sum := by
  refine ro_fn Tryd.func51 ok_match_Right_1 (env_cons (s := RoF S_oxm_Right) snd_oxm_Right (env_nil _)) fun args objs p v e => ?_
  unfold S_match_Right_1 at e
  split at e
  · rename_i c f h x v m
    cases e
    refine ⟨rfl, fun hw ho hp => ?_⟩
    change List Int at v
    change List Int at m
    clear hw ho
    repeat' (intro t ht; first | (cases t <;> first | (cases ht; done) | ((try simp only [bn_s] at ht); (try simp only [nd_s] at ht); (try (exfalso; first | contradiction | omega)))) | (refine ht ?_ ?_ <;> clear ht) | (refine ht.1 ?_ ?_ <;> clear ht) | (refine ht ?_; clear ht))
    all_goals first
      | exact True.intro
      | exact hp
      | exact ⟨rfl, rfl⟩
      | trace_state
  · cases e
def ir_slices_IndexFunc_api_Oxm_api_Oxm : IR :=
(.seq
(.keep [0, 1]
(.reg (oD 4 (.mov (cI 0)) ::
[])))
(.seq
(.seq
(.reg (oM 6 0 ::
oD 7 (.len (.t 6)) ::
oD 8 (.mov (cI 0)) ::
[]))
(.block 0
(.loop
(.seq
(.keep [0, 1, 7, 8]
(.reg (oD 9 (.bin .lss (.t 8) (.t 7)) ::
[])))
(.seq
(.cond (.t 9)
.skip
(.exit 0))
(.seq
(.block 1
(.seq
(.reg (oM 10 8 ::
oM 5 10 ::
[]))
(.seq
(.keep [0, 1, 5, 7, 8]
(.reg (oM 11 1 ::
oM 12 0 ::
oM 13 5 ::
oD 14 (.indexSl 6 (.t 12) (.t 13)) ::
oD 15 (.load (some 6) (.t 14)) ::
oD 16 (.call false (.t 11) [(.t 15)]) ::
[])))
(.cond (.t 16)
(.seq
(.keep [5]
(.reg (oM 17 5 ::
oM 4 17 ::
[])))
.ret)
.skip))))
(.keep [0, 1, 7, 8]
(.reg (oD 18 (.bin .add (.t 8) (cI 1)) ::
oM 8 18 ::
[])))))))))
(.seq
(.keep []
(.reg (oD 4 (.mov (cI (-1))) ::
[])))
.ret)))
def rd_slices_IndexFunc_api_Oxm_api_Oxm : List RD := [.tmp 4 true none]
theorem ok_slices_IndexFunc_api_Oxm_api_Oxm : fnOk Tryd.prog Tryd.f75 ir_slices_IndexFunc_api_Oxm_api_Oxm rd_slices_IndexFunc_api_Oxm_api_Oxm = true := by kernel_rfl
def S_slices_IndexFunc_api_Oxm_api_Oxm : List AV → List Obj → Option (Prop × AV)
  | [.imm (.cons (.int .i64) (.cons (.int .i64) (.cons .bool (.cons (.int .u64) (.cons (.sl (.int .u8)) (.cons (.sl (.int .u8)) .nil)))))) l, .fn 103 [] [.ptr 0 0]], [.box [.int .i64 bits, .int .i64 size, .bool mk, .int .i64 nd, .imm (.int .u64) vals]] => some ((True, .int .i64 (idxP (α := OV) (mtO nd vals) l 0)))
  | [.imm (.cons (.int .i64) (.cons (.int .i64) (.cons .bool (.cons (.int .u64) (.cons (.sl (.int .u8)) (.cons (.sl (.int .u8)) .nil)))))) l, .fn 78 [] [.ptr 0 0]], [.box [.int .i64 c', .int .i64 f', .bool h', .int .u64 x', .imm (.int .u8) v', .imm (.int .u8) m']] => some ((True, .int .i64 (idxP (α := OV) (fun x => alO x (c', f', h', x', v', m', ())) l 0)))
  | [.imm (.cons (.int .i64) (.cons (.int .i64) (.cons .bool (.cons (.int .u64) (.cons (.sl (.int .u8)) (.cons (.sl (.int .u8)) .nil)))))) l, .fn 51 [] []], [] => some ((allLen l, .int .i64 (idxP (α := OV) (fun o => !rgO o) l 0)))
  | _, _ => none
theorem snd_slices_IndexFunc_api_Oxm_api_Oxm : SoundS Tryd.prog 75 (RoF S_slices_IndexFunc_api_Oxm_api_Oxm).sum := by
  refine ro_fn Tryd.func75 ok_slices_IndexFunc_api_Oxm_api_Oxm (env_cons (s := RoF S_match_Right_1) snd_match_Right_1 (env_cons (s := RoF S_need_Check_1) snd_need_Check_1 (env_cons (s := RoF S_need_Met_1) snd_need_Met_1 (env_nil _)))) fun args objs p v e => ?_
  unfold S_slices_IndexFunc_api_Oxm_api_Oxm at e
  split at e
  · rename_i l bits size mk nd vals
    cases e
    refine ⟨rfl, fun hw ho hp => ?_⟩
    change List Int at vals
    change List OV at l
    have hl : l.length ≤ maxLen := (hw (.imm (.cons (.int .i64) (.cons (.int .i64) (.cons .bool (.cons (.int .u64) (.cons (.sl (.int .u8)) (.cons (.sl (.int .u8)) .nil)))))) l) (by simp)).2
    unfold maxLen at hl
    clear hw ho
    repeat' (intro t ht; first | (cases t <;> first | (cases ht; done) | ((try simp only [bn_s] at ht); (try simp only [nd_s] at ht))) | (refine ht ?_ ?_ <;> clear ht) | (refine ht.1 ?_ ?_ <;> clear ht) | (refine ht ?_; clear ht))
    all_goals first
      | (intro r h1 h2; clear h1; refine h2 ⟨[0, 1, 7, 8], Nat, (fun i => i ≤ l.length ∧ idxP (mtO nd vals) l 0 = idxP (mtO nd vals) (l.drop i) i), fun i => [.imm (.cons (.int .i64) (.cons (.int .i64) (.cons .bool (.cons (.int .u64) (.cons (.sl (.int .u8)) (.cons (.sl (.int .u8)) .nil)))))) l, .fn 103 [] [.ptr 0 0], .int .i64 l.length, .int .i64 i], fun _ => [.box [.int .i64 bits, .int .i64 size, .bool mk, .int .i64 nd, .imm (.int .u64) vals]], fun i => l.length - i, ⟨0, ⟨Nat.zero_le _, rfl⟩, rfl, rfl⟩, ?_⟩; clear h2)
    rintro i ⟨hi, he⟩
    repeat' (intro t ht; first | (cases t <;> first | (cases ht; done) | ((try simp only [bn_s] at ht); (try simp only [nd_s] at ht); (try (exfalso; first | contradiction | omega)))) | (refine ht ?_ ?_ <;> clear ht) | (refine ht.1 ?_ ?_ <;> clear ht) | (refine ht ?_; clear ht))
    all_goals (try generalize (Ty.dflt (.cons (.int .i64) (.cons (.int .i64) (.cons .bool (.cons (.int .u64) (.cons (.sl (.int .u8)) (.cons (.sl (.int .u8)) .nil))))))) = od at *)
    all_goals first
      | exact True.intro
      | ((try simp only [nd_s, bn_s, mm_s] at *); omega)
      | (refine ⟨?_, rfl⟩; rw [he, idxP_end (by omega)]; done)
      | (refine ⟨?_, rfl⟩; rw [he, idxP_at (d := od) (by omega) (by assumption)]; done)
      | exact ⟨i + 1, ⟨by omega, he.trans (idxP_ne (d := od) (by omega) (by assumption))⟩, by dsimp only; omega, rfl, rfl⟩
      | trace_state
  · rename_i l c' f' h' x' v' m'
    cases e
    refine ⟨rfl, fun hw ho hp => ?_⟩
    change List Int at v'
    change List Int at m'
    change List OV at l
    have hl : l.length ≤ maxLen := (hw (.imm (.cons (.int .i64) (.cons (.int .i64) (.cons .bool (.cons (.int .u64) (.cons (.sl (.int .u8)) (.cons (.sl (.int .u8)) .nil)))))) l) (by simp)).2
    unfold maxLen at hl
    clear hw ho
    repeat' (intro t ht; first | (cases t <;> first | (cases ht; done) | ((try simp only [bn_s] at ht); (try simp only [nd_s] at ht))) | (refine ht ?_ ?_ <;> clear ht) | (refine ht.1 ?_ ?_ <;> clear ht) | (refine ht ?_; clear ht))
    all_goals first
      | (intro r h1 h2; clear h1; refine h2 ⟨[0, 1, 7, 8], Nat, (fun i => i ≤ l.length ∧ idxP (fun x => alO x (c', f', h', x', v', m', ())) l 0 = idxP (fun x => alO x (c', f', h', x', v', m', ())) (l.drop i) i), fun i => [.imm (.cons (.int .i64) (.cons (.int .i64) (.cons .bool (.cons (.int .u64) (.cons (.sl (.int .u8)) (.cons (.sl (.int .u8)) .nil)))))) l, .fn 78 [] [.ptr 0 0], .int .i64 l.length, .int .i64 i], fun _ => [.box [.int .i64 c', .int .i64 f', .bool h', .int .u64 x', .imm (.int .u8) v', .imm (.int .u8) m']], fun i => l.length - i, ⟨0, ⟨Nat.zero_le _, rfl⟩, rfl, rfl⟩, ?_⟩; clear h2)
    rintro i ⟨hi, he⟩
    repeat' (intro t ht; first | (cases t <;> first | (cases ht; done) | ((try simp only [bn_s] at ht); (try simp only [nd_s] at ht); (try (exfalso; first | contradiction | omega)))) | (refine ht ?_ ?_ <;> clear ht) | (refine ht.1 ?_ ?_ <;> clear ht) | (refine ht ?_; clear ht))
    all_goals (try generalize (Ty.dflt (.cons (.int .i64) (.cons (.int .i64) (.cons .bool (.cons (.int .u64) (.cons (.sl (.int .u8)) (.cons (.sl (.int .u8)) .nil))))))) = od at *)
    all_goals first
      | exact True.intro
      | ((try simp only [nd_s, bn_s, mm_s] at *); omega)
      | (refine ⟨?_, rfl⟩; rw [he, idxP_end (by omega)]; done)
      | (refine ⟨?_, rfl⟩; rw [he, idxP_at (p := fun x => alO x (c', f', h', x', v', m', ())) (d := od) (by omega) (alO_t ht)]; done)
      | exact ⟨i + 1, ⟨by omega, he.trans (idxP_ne (p := fun x => alO x (c', f', h', x', v', m', ())) (d := od) (by omega) (alO_f ht))⟩, by dsimp only; omega, rfl, rfl⟩
      | trace_state
  · rename_i l
    cases e
    refine ⟨rfl, fun hw ho hp => ?_⟩
    change List OV at l
    have hl : l.length ≤ maxLen := (hw (.imm (.cons (.int .i64) (.cons (.int .i64) (.cons .bool (.cons (.int .u64) (.cons (.sl (.int .u8)) (.cons (.sl (.int .u8)) .nil)))))) l) (by simp)).2
    unfold maxLen at hl
    clear hw ho
    repeat' (intro t ht; first | (cases t <;> first | (cases ht; done) | ((try simp only [bn_s] at ht); (try simp only [nd_s] at ht))) | (refine ht ?_ ?_ <;> clear ht) | (refine ht.1 ?_ ?_ <;> clear ht) | (refine ht ?_; clear ht))
    all_goals first
      | (intro r h1 h2; clear h1; refine h2 ⟨[0, 1, 7, 8], Nat, (fun i => i ≤ l.length ∧ idxP (fun o => !rgO o) l 0 = idxP (fun o => !rgO o) (l.drop i) i), fun i => [.imm (.cons (.int .i64) (.cons (.int .i64) (.cons .bool (.cons (.int .u64) (.cons (.sl (.int .u8)) (.cons (.sl (.int .u8)) .nil)))))) l, .fn 51 [] [], .int .i64 l.length, .int .i64 i], fun _ => [], fun i => l.length - i, ⟨0, ⟨Nat.zero_le _, rfl⟩, rfl, rfl⟩, ?_⟩; clear h2)
    rintro i ⟨hi, he⟩
    repeat' (intro t ht; first | (cases t <;> first | (cases ht; done) | ((try simp only [bn_s] at ht); (try simp only [nd_s] at ht); (try (exfalso; first | contradiction | omega)))) | (refine ht ?_ ?_ <;> clear ht) | (refine ht.1 ?_ ?_ <;> clear ht) | (refine ht ?_; clear ht))
    all_goals (try generalize (Ty.dflt (.cons (.int .i64) (.cons (.int .i64) (.cons .bool (.cons (.int .u64) (.cons (.sl (.int .u8)) (.cons (.sl (.int .u8)) .nil))))))) = od at *)
    all_goals first
      | exact True.intro
      | ((try simp only [nd_s, bn_s, mm_s] at *); omega)
      | exact lenM (hp.h _ (getD_mem' (by omega) od))
      | (refine ⟨?_, rfl⟩; rw [he, idxP_end (by omega)]; done)
      | (refine ⟨?_, rfl⟩; rw [he, idxP_at (p := fun o => !rgO o) (d := od) (by omega) (by (try dsimp only); unfold rgO; rw [ht]; rfl)]; done)
      | exact ⟨i + 1, ⟨by omega, he.trans (idxP_ne (p := fun o => !rgO o) (d := od) (by omega) (by (try dsimp only); unfold rgO; rw [ht]; rfl))⟩, by dsimp only; omega, rfl, rfl⟩
      | trace_state
  · cases e
def ir_slices_ContainsFunc_api_Oxm_api_Oxm : IR :=
(.seq
(.keep [0, 1]
(.reg (oD 4 (.mov cF) ::
[])))
(.seq
(.keep [0, 1]
(.reg (oM 5 0 ::
oM 6 1 ::
oD 7 (.call false (.f 75) [(.t 5), (.t 6)]) ::
oD 8 (.bin .geq (.t 7) (cI 0)) ::
oM 4 8 ::
[])))
.ret))
def rd_slices_ContainsFunc_api_Oxm_api_Oxm : List RD := [.tmp 4 true none]
theorem ok_slices_ContainsFunc_api_Oxm_api_Oxm : fnOk Tryd.prog Tryd.f50 ir_slices_ContainsFunc_api_Oxm_api_Oxm rd_slices_ContainsFunc_api_Oxm_api_Oxm = true := by kernel_rfl
def S_slices_ContainsFunc_api_Oxm_api_Oxm : List AV → List Obj → Option (Prop × AV)
  | [.imm (.cons (.int .i64) (.cons (.int .i64) (.cons .bool (.cons (.int .u64) (.cons (.sl (.int .u8)) (.cons (.sl (.int .u8)) .nil)))))) l, .fn 103 [] [.ptr 0 0]], [.box [.int .i64 bits, .int .i64 size, .bool mk, .int .i64 nd, .imm (.int .u64) vals]] => some ((True, .bool ((l : List OV).any (mtO nd vals))))
  | [.imm (.cons (.int .i64) (.cons (.int .i64) (.cons .bool (.cons (.int .u64) (.cons (.sl (.int .u8)) (.cons (.sl (.int .u8)) .nil)))))) l, .fn 78 [] [.ptr 0 0]], [.box [.int .i64 c', .int .i64 f', .bool h', .int .u64 x', .imm (.int .u8) v', .imm (.int .u8) m']] => some ((True, .bool ((l : List OV).any (fun x => alO x (c', f', h', x', v', m', ())))))
  | [.imm (.cons (.int .i64) (.cons (.int .i64) (.cons .bool (.cons (.int .u64) (.cons (.sl (.int .u8)) (.cons (.sl (.int .u8)) .nil)))))) l, .fn 51 [] []], [] => some ((allLen l, .bool ((l : List OV).any (fun o => !rgO o))))
  | _, _ => none
theorem snd_slices_ContainsFunc_api_Oxm_api_Oxm : SoundS Tryd.prog 50 (RoF S_slices_ContainsFunc_api_Oxm_api_Oxm).sum := by
  refine ro_fn Tryd.func50 ok_slices_ContainsFunc_api_Oxm_api_Oxm (env_cons (s := RoF S_slices_IndexFunc_api_Oxm_api_Oxm) snd_slices_IndexFunc_api_Oxm_api_Oxm (env_nil _)) fun args objs p v e => ?_
  unfold S_slices_ContainsFunc_api_Oxm_api_Oxm at e
  split at e
  · rename_i l bits size mk nd vals
    cases e
    refine ⟨rfl, fun hw ho hp => ?_⟩
    change List Int at vals
    have h := idxP_any (p := mtO nd vals) l 0 (Int.le_refl _)
    repeat' (intro t ht; first | (cases t <;> first | (cases ht; done) | ((try simp only [bn_s] at ht); (try simp only [nd_s] at ht); (try (exfalso; first | contradiction | omega)))) | (refine ht ?_ ?_ <;> clear ht) | (refine ht.1 ?_ ?_ <;> clear ht) | (refine ht ?_; clear ht))
    all_goals first
      | exact True.intro
      | exact ⟨congrArg AV.bool h, rfl⟩
      | trace_state
  · rename_i l c' f' h' x' v' m'
    cases e
    refine ⟨rfl, fun hw ho hp => ?_⟩
    change List Int at v'
    change List Int at m'
    have h := idxP_any (p := fun x => alO x (c', f', h', x', v', m', ())) l 0 (Int.le_refl _)
    repeat' (intro t ht; first | (cases t <;> first | (cases ht; done) | ((try simp only [bn_s] at ht); (try simp only [nd_s] at ht); (try (exfalso; first | contradiction | omega)))) | (refine ht ?_ ?_ <;> clear ht) | (refine ht.1 ?_ ?_ <;> clear ht) | (refine ht ?_; clear ht))
    all_goals first
      | exact True.intro
      | exact ⟨congrArg AV.bool h, rfl⟩
      | trace_state
  · rename_i l
    cases e
    refine ⟨rfl, fun hw ho hp => ?_⟩
    have h := idxP_any (p := fun o => !rgO o) l 0 (Int.le_refl _)
    repeat' (intro t ht; first | (cases t <;> first | (cases ht; done) | ((try simp only [bn_s] at ht); (try simp only [nd_s] at ht); (try (exfalso; first | contradiction | omega)))) | (refine ht ?_ ?_ <;> clear ht) | (refine ht.1 ?_ ?_ <;> clear ht) | (refine ht ?_; clear ht))
    all_goals first
      | exact True.intro
      | exact hp
      | exact ⟨congrArg AV.bool h, rfl⟩
      | trace_state
  · cases e
end Go.Eng
