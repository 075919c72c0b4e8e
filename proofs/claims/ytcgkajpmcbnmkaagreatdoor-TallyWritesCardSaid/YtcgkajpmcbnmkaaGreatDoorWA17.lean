/- Parts of the proof: V1. No condition. -/
import Derived.Test.YtcgkajpmcbnmkaaGreatDoorProg
import Derived.Test.YtcgkajpmcbnmkaaGreatDoorWA10
import Derived.KernelRfl
import Derived.Test.YtcgkajpmcbnmkaaGreatDoorWA16
import Derived.Test.YtcgkajpmcbnmkaaGreatDoorWA12
namespace Go.Eng
open Go.Proofs
set_option linter.unusedVariables false
set_option linter.unusedSimpArgs false
set_option maxRecDepth 100000
set_option maxHeartbeats 1000000
abbrev VIn := Int × Int × Int × List AC × List Int × Unit
instance : DecidableEq (List Int × Unit) := inferInstance
instance : DecidableEq (List AC × List Int × Unit) := inferInstance
instance : DecidableEq (Int × List AC × List Int × Unit) := inferInstance
instance : DecidableEq (Int × Int × List AC × List Int × Unit) := inferInstance
instance : DecidableEq VIn := inferInstance
theorem ne_VIn {x y : VIn} (h : ¬ (x.1 = y.1 ∧ x.2.1 = y.2.1 ∧ x.2.2.1 = y.2.2.1 ∧ x.2.2.2.1 = y.2.2.2.1 ∧ x.2.2.2.2.1 = y.2.2.2.2.1)) : ¬ x = y := fun e => h (by rw [e]; exact ⟨rfl, rfl, rfl, rfl, rfl⟩)
theorem eq_VIn {x y : VIn} (h : x.1 = y.1 ∧ x.2.1 = y.2.1 ∧ x.2.2.1 = y.2.2.1 ∧ x.2.2.2.1 = y.2.2.2.1 ∧ x.2.2.2.2.1 = y.2.2.2.2.1) : x = y := by
  obtain ⟨a0, a1, a2, a3, a4, _⟩ := x
  obtain ⟨b0, b1, b2, b3, b4, _⟩ := y
  simpa only [Prod.mk.injEq, and_true] using h
abbrev VBd := Int × Int × Int × Int × List Int × Unit
instance : DecidableEq (List Int × Unit) := inferInstance
instance : DecidableEq (Int × List Int × Unit) := inferInstance
instance : DecidableEq (Int × Int × List Int × Unit) := inferInstance
instance : DecidableEq (Int × Int × Int × List Int × Unit) := inferInstance
instance : DecidableEq VBd := inferInstance
theorem ne_VBd {x y : VBd} (h : ¬ (x.1 = y.1 ∧ x.2.1 = y.2.1 ∧ x.2.2.1 = y.2.2.1 ∧ x.2.2.2.1 = y.2.2.2.1 ∧ x.2.2.2.2.1 = y.2.2.2.2.1)) : ¬ x = y := fun e => h (by rw [e]; exact ⟨rfl, rfl, rfl, rfl, rfl⟩)
theorem eq_VBd {x y : VBd} (h : x.1 = y.1 ∧ x.2.1 = y.2.1 ∧ x.2.2.1 = y.2.2.1 ∧ x.2.2.2.1 = y.2.2.2.1 ∧ x.2.2.2.2.1 = y.2.2.2.2.1) : x = y := by
  obtain ⟨a0, a1, a2, a3, a4, _⟩ := x
  obtain ⟨b0, b1, b2, b3, b4, _⟩ := y
  simpa only [Prod.mk.injEq, and_true] using h
abbrev VPr := Int × Int × List Int × Unit
instance : DecidableEq (List Int × Unit) := inferInstance
instance : DecidableEq (Int × List Int × Unit) := inferInstance
instance : DecidableEq VPr := inferInstance
theorem ne_VPr {x y : VPr} (h : ¬ (x.1 = y.1 ∧ x.2.1 = y.2.1 ∧ x.2.2.1 = y.2.2.1)) : ¬ x = y := fun e => h (by rw [e]; exact ⟨rfl, rfl, rfl⟩)
theorem eq_VPr {x y : VPr} (h : x.1 = y.1 ∧ x.2.1 = y.2.1 ∧ x.2.2.1 = y.2.2.1) : x = y := by
  obtain ⟨a0, a1, a2, _⟩ := x
  obtain ⟨b0, b1, b2, _⟩ := y
  simpa only [Prod.mk.injEq, and_true] using h
abbrev VQu := Int × Int × List VPr × Unit
instance : DecidableEq (List VPr × Unit) := inferInstance
instance : DecidableEq (Int × List VPr × Unit) := inferInstance
instance : DecidableEq VQu := inferInstance
theorem ne_VQu {x y : VQu} (h : ¬ (x.1 = y.1 ∧ x.2.1 = y.2.1 ∧ x.2.2.1 = y.2.2.1)) : ¬ x = y := fun e => h (by rw [e]; exact ⟨rfl, rfl, rfl⟩)
theorem eq_VQu {x y : VQu} (h : x.1 = y.1 ∧ x.2.1 = y.2.1 ∧ x.2.2.1 = y.2.2.1) : x = y := by
  obtain ⟨a0, a1, a2, _⟩ := x
  obtain ⟨b0, b1, b2, _⟩ := y
  simpa only [Prod.mk.injEq, and_true] using h
abbrev VFe := Int × List Int × List Int × Unit
instance : DecidableEq (List Int × Unit) := inferInstance
instance : DecidableEq (List Int × List Int × Unit) := inferInstance
instance : DecidableEq VFe := inferInstance
theorem ne_VFe {x y : VFe} (h : ¬ (x.1 = y.1 ∧ x.2.1 = y.2.1 ∧ x.2.2.1 = y.2.2.1)) : ¬ x = y := fun e => h (by rw [e]; exact ⟨rfl, rfl, rfl⟩)
theorem eq_VFe {x y : VFe} (h : x.1 = y.1 ∧ x.2.1 = y.2.1 ∧ x.2.2.1 = y.2.2.1) : x = y := by
  obtain ⟨a0, a1, a2, _⟩ := x
  obtain ⟨b0, b1, b2, _⟩ := y
  simpa only [Prod.mk.injEq, and_true] using h
abbrev VTb := Int × List Int × Int × Int × Int × Int × List VFe × Unit
instance : DecidableEq (List VFe × Unit) := inferInstance
instance : DecidableEq (Int × List VFe × Unit) := inferInstance
instance : DecidableEq (Int × Int × List VFe × Unit) := inferInstance
instance : DecidableEq (Int × Int × Int × List VFe × Unit) := inferInstance
instance : DecidableEq (Int × Int × Int × Int × List VFe × Unit) := inferInstance
instance : DecidableEq (List Int × Int × Int × Int × Int × List VFe × Unit) := inferInstance
instance : DecidableEq VTb := inferInstance
theorem ne_VTb {x y : VTb} (h : ¬ (x.1 = y.1 ∧ x.2.1 = y.2.1 ∧ x.2.2.1 = y.2.2.1 ∧ x.2.2.2.1 = y.2.2.2.1 ∧ x.2.2.2.2.1 = y.2.2.2.2.1 ∧ x.2.2.2.2.2.1 = y.2.2.2.2.2.1 ∧ x.2.2.2.2.2.2.1 = y.2.2.2.2.2.2.1)) : ¬ x = y := fun e => h (by rw [e]; exact ⟨rfl, rfl, rfl, rfl, rfl, rfl, rfl⟩)
theorem eq_VTb {x y : VTb} (h : x.1 = y.1 ∧ x.2.1 = y.2.1 ∧ x.2.2.1 = y.2.2.1 ∧ x.2.2.2.1 = y.2.2.2.1 ∧ x.2.2.2.2.1 = y.2.2.2.2.1 ∧ x.2.2.2.2.2.1 = y.2.2.2.2.2.1 ∧ x.2.2.2.2.2.2.1 = y.2.2.2.2.2.2.1) : x = y := by
  obtain ⟨a0, a1, a2, a3, a4, a5, a6, _⟩ := x
  obtain ⟨b0, b1, b2, b3, b4, b5, b6, _⟩ := y
  simpa only [Prod.mk.injEq, and_true] using h
abbrev VEl := Int × List Int × Unit
instance : DecidableEq (List Int × Unit) := inferInstance
instance : DecidableEq VEl := inferInstance
theorem ne_VEl {x y : VEl} (h : ¬ (x.1 = y.1 ∧ x.2.1 = y.2.1)) : ¬ x = y := fun e => h (by rw [e]; exact ⟨rfl, rfl⟩)
theorem eq_VEl {x y : VEl} (h : x.1 = y.1 ∧ x.2.1 = y.2.1) : x = y := by
  obtain ⟨a0, a1, _⟩ := x
  obtain ⟨b0, b1, _⟩ := y
  simpa only [Prod.mk.injEq, and_true] using h
abbrev VPa := List Int × List (List Int) × List OV × List VIn × List BK × List VBd × List (List Int) × List PV × List VTb × List Int × Unit
instance : DecidableEq (List Int × Unit) := inferInstance
instance : DecidableEq (List VTb × List Int × Unit) := inferInstance
instance : DecidableEq (List PV × List VTb × List Int × Unit) := inferInstance
instance : DecidableEq (List (List Int) × List PV × List VTb × List Int × Unit) := inferInstance
instance : DecidableEq (List VBd × List (List Int) × List PV × List VTb × List Int × Unit) := inferInstance
instance : DecidableEq (List BK × List VBd × List (List Int) × List PV × List VTb × List Int × Unit) := inferInstance
instance : DecidableEq (List VIn × List BK × List VBd × List (List Int) × List PV × List VTb × List Int × Unit) := inferInstance
instance : DecidableEq (List OV × List VIn × List BK × List VBd × List (List Int) × List PV × List VTb × List Int × Unit) := inferInstance
instance : DecidableEq (List (List Int) × List OV × List VIn × List BK × List VBd × List (List Int) × List PV × List VTb × List Int × Unit) := inferInstance
instance : DecidableEq VPa := inferInstance
abbrev VMs := Int × Int × List Int × List Int × List VEl × List OV × List AC × List VIn × List BK × List VBd × List VQu × List PV × Int × Int × List VPa × Unit
instance : DecidableEq (List VPa × Unit) := inferInstance
instance : DecidableEq (Int × List VPa × Unit) := inferInstance
instance : DecidableEq (Int × Int × List VPa × Unit) := inferInstance
instance : DecidableEq (List PV × Int × Int × List VPa × Unit) := inferInstance
instance : DecidableEq (List VQu × List PV × Int × Int × List VPa × Unit) := inferInstance
instance : DecidableEq (List VBd × List VQu × List PV × Int × Int × List VPa × Unit) := inferInstance
instance : DecidableEq (List BK × List VBd × List VQu × List PV × Int × Int × List VPa × Unit) := inferInstance
instance : DecidableEq (List VIn × List BK × List VBd × List VQu × List PV × Int × Int × List VPa × Unit) := inferInstance
instance : DecidableEq (List AC × List VIn × List BK × List VBd × List VQu × List PV × Int × Int × List VPa × Unit) := inferInstance
instance : DecidableEq (List OV × List AC × List VIn × List BK × List VBd × List VQu × List PV × Int × Int × List VPa × Unit) := inferInstance
instance : DecidableEq (List VEl × List OV × List AC × List VIn × List BK × List VBd × List VQu × List PV × Int × Int × List VPa × Unit) := inferInstance
instance : DecidableEq (List Int × List VEl × List OV × List AC × List VIn × List BK × List VBd × List VQu × List PV × Int × Int × List VPa × Unit) := inferInstance
instance : DecidableEq (List Int × List Int × List VEl × List OV × List AC × List VIn × List BK × List VBd × List VQu × List PV × Int × Int × List VPa × Unit) := inferInstance
instance : DecidableEq (Int × List Int × List Int × List VEl × List OV × List AC × List VIn × List BK × List VBd × List VQu × List PV × Int × Int × List VPa × Unit) := inferInstance
instance : DecidableEq VMs := inferInstance
def ir_r01_Nums : IR :=
(.seq
(.keep [0, 1]
(.reg [oD 4 (.mov cF)]))
(.seq
(.seq
(.keep [0, 1]
(.reg [oM 6 0,
oE 7 6,
oM 8 1,
oE 9 8,
oB 10 .neq (.t 7) (.t 9)]))
(.cond (.t 10)
(.seq
(.reg [oD 4 (.mov cF)])
.ret)
.skip))
(.seq
(.seq
(.keep [0, 1]
(.reg [oD 5 (.mov (cI 0))]))
(.block 0
(.loop
(.seq
(.seq
(.keep [0, 1, 5]
(.reg [oM 11 5,
oM 12 0,
oE 13 12,
oB 14 .lss (.t 11) (.t 13)]))
(.cond (.t 14)
.skip
(.exit 0)))
(.seq
(.block 1
(.seq
(.keep [0, 1, 5]
(.regD [(oM 17 0, []),
(oM 18 5, [0]),
(oI 19 1 17 18, []),
(oL 20 19, []),
(oM 21 1, [0,0,0,0]),
(oM 22 5, [0,0,0,0,0]),
(oI 23 1 21 22, [2,0,0,0]),
(oL 24 23, [3,0,0,0]),
(oB 25 .neq (.t 20) (.t 24), [])]))
(.cond (.t 25)
(.seq
(.keep []
(.reg [oD 4 (.mov cF)]))
.ret)
.skip)))
(.keep [0, 1, 5]
(.reg [oM 15 5,
oB 16 .add (.t 15) (cI 1),
oM 5 16])))))))
(.seq
(.keep []
(.reg [oD 4 (.mov cT)]))
.ret))))
def rd_r01_Nums : List RD := [.tmp 4 true none]
theorem ok_r01_Nums : fnOk Tryz.prog Tryz.f17 ir_r01_Nums rd_r01_Nums = true := by kernel_rfl
def S_r01_Nums : List AV → List Obj → Option (Prop × AV)
  | [.imm (.int .u64) a, .imm (.int .u64) b], [] => some ((True, .bool (decide ((a : List Int) = b))))
  | _, _ => none
theorem snd_r01_Nums : SoundS Tryz.prog 17 (RoF S_r01_Nums).sum := by
  refine ro_fn Tryz.func17 ok_r01_Nums (env_nil _) fun args objs p v e => ?_
  unfold S_r01_Nums at e
  split at e
  · rename_i a b
    cases e
    refine ⟨rfl, fun hw ho hp => ?_⟩
    change List Int at a
    change List Int at b
    change List Int at a
    change List Int at b
    have hl : a.length ≤ maxLen := (hw (.imm (.int .u64) a) (by simp)).2
    unfold maxLen at hl
    clear hw ho
    repeat' (intro t ht; first | (cases t <;> first | (cases ht; done) | ((try simp only [bn_s] at ht); (try simp only [nd_s] at ht))) | (refine castG_go ht ?_; clear ht) | (refine ht ?_ ?_ <;> clear ht) | (refine ht.1 ?_ ?_ <;> clear ht) | (refine ht ?_; clear ht))
    all_goals first
      | (have hne : a ≠ b := fun h => (by assumption : ¬ (a.length : Int) = b.length) (by rw [h])
         refine ⟨?_, rfl⟩; rw [decide_eq_false hne]; done)
      | (intro r h1 h2; clear h1; refine h2 ⟨[0, 1, 5], Nat, (fun i => i ≤ a.length ∧ a.take i = b.take i), fun i => [.imm (.int .u64) a, .imm (.int .u64) b, .int .i64 i], fun _ => [], fun i => a.length - i, ⟨0, ⟨Nat.zero_le _, rfl⟩, rfl, rfl⟩, ?_⟩; clear h2)
    rintro i ⟨hi, he⟩
    have hl2 : a.length = b.length := by omega
    repeat' (intro t ht; first | (cases t <;> first | (cases ht; done) | ((try simp only [bn_s] at ht); (try simp only [nd_s] at ht); (try (exfalso; first | contradiction | omega)))) | (refine castG_go ht ?_; clear ht) | (refine ht ?_ ?_ <;> clear ht) | (refine ht.1 ?_ ?_ <;> clear ht) | (refine ht ?_; clear ht))
    all_goals first
      | exact True.intro
      | ((try simp only [nd_s, bn_s, mm_s] at *); omega)
      | (have e := tkAll he (by omega) hl2
         refine ⟨?_, rfl⟩; rw [decide_eq_true e]; done)
      | (have hne : a ≠ b := tkNe (d := 0) (i := i) (by assumption)
         refine ⟨?_, rfl⟩; rw [decide_eq_false hne]; done)
      | exact ⟨i + 1, ⟨by omega, tkStep he (by omega) hl2 (d := 0) (by assumption)⟩, by (try simp only [nd_s, bn_s, mm_s] at *); omega, rfl, rfl⟩
      | skip
  · cases e
def ir_slices_Equal_uint64_uint64 : IR :=
(.seq
(.keep [0, 1]
(.reg [oD 4 (.mov cF)]))
(.seq
(.seq
(.keep [0, 1]
(.reg [oM 6 0,
oE 7 6,
oM 8 1,
oE 9 8,
oB 10 .neq (.t 7) (.t 9)]))
(.cond (.t 10)
(.seq
(.reg [oD 4 (.mov cF)])
.ret)
.skip))
(.seq
(.seq
(.keep [0, 1]
(.reg [oM 11 0,
oE 12 11,
oD 13 (.mov (cI 0))]))
(.block 0
(.loop
(.seq
(.keep [0, 1, 12, 13]
(.reg [oB 14 .lss (.t 13) (.t 12)]))
(.seq
(.cond (.t 14)
.skip
(.exit 0))
(.seq
(.block 1
(.seq
(.reg [oM 15 13,
oM 5 15])
(.seq
(.keep [0, 1, 5, 12, 13]
(.regD [(oM 16 0, []),
(oM 17 5, [0]),
(oI 18 1 16 17, []),
(oL 19 18, []),
(oM 20 1, [0,0,0,0]),
(oM 21 5, [0,0,0,0,0]),
(oI 22 1 20 21, [2,0,0,0]),
(oL 23 22, [3,0,0,0]),
(oB 24 .neq (.t 19) (.t 23), [])]))
(.cond (.t 24)
(.seq
(.keep []
(.reg [oD 4 (.mov cF)]))
.ret)
.skip))))
(.keep [0, 1, 12, 13]
(.reg [oB 25 .add (.t 13) (cI 1),
oM 13 25]))))))))
(.seq
(.keep []
(.reg [oD 4 (.mov cT)]))
.ret))))
def rd_slices_Equal_uint64_uint64 : List RD := [.tmp 4 true none]
theorem ok_slices_Equal_uint64_uint64 : fnOk Tryz.prog Tryz.f52 ir_slices_Equal_uint64_uint64 rd_slices_Equal_uint64_uint64 = true := by kernel_rfl
def S_slices_Equal_uint64_uint64 : List AV → List Obj → Option (Prop × AV)
  | [.imm (.int .u64) a, .imm (.int .u64) b], [] => some ((True, .bool (decide ((a : List Int) = b))))
  | _, _ => none
theorem snd_slices_Equal_uint64_uint64 : SoundS Tryz.prog 52 (RoF S_slices_Equal_uint64_uint64).sum := by
  refine ro_fn Tryz.func52 ok_slices_Equal_uint64_uint64 (env_nil _) fun args objs p v e => ?_
  unfold S_slices_Equal_uint64_uint64 at e
  split at e
  · rename_i a b
    cases e
    refine ⟨rfl, fun hw ho hp => ?_⟩
    change List Int at a
    change List Int at b
    change List Int at a
    change List Int at b
    have hl : a.length ≤ maxLen := (hw (.imm (.int .u64) a) (by simp)).2
    unfold maxLen at hl
    clear hw ho
    repeat' (intro t ht; first | (cases t <;> first | (cases ht; done) | ((try simp only [bn_s] at ht); (try simp only [nd_s] at ht))) | (refine castG_go ht ?_; clear ht) | (refine ht ?_ ?_ <;> clear ht) | (refine ht.1 ?_ ?_ <;> clear ht) | (refine ht ?_; clear ht))
    all_goals first
      | (have hne : a ≠ b := fun h => (by assumption : ¬ (a.length : Int) = b.length) (by rw [h])
         refine ⟨?_, rfl⟩; rw [decide_eq_false hne]; done)
      | (intro r h1 h2; clear h1; refine h2 ⟨[0, 1, 12, 13], Nat, (fun i => i ≤ a.length ∧ a.take i = b.take i), fun i => [.imm (.int .u64) a, .imm (.int .u64) b, .int .i64 a.length, .int .i64 i], fun _ => [], fun i => a.length - i, ⟨0, ⟨Nat.zero_le _, rfl⟩, rfl, rfl⟩, ?_⟩; clear h2)
    rintro i ⟨hi, he⟩
    have hl2 : a.length = b.length := by omega
    repeat' (intro t ht; first | (cases t <;> first | (cases ht; done) | ((try simp only [bn_s] at ht); (try simp only [nd_s] at ht); (try (exfalso; first | contradiction | omega)))) | (refine castG_go ht ?_; clear ht) | (refine ht ?_ ?_ <;> clear ht) | (refine ht.1 ?_ ?_ <;> clear ht) | (refine ht ?_; clear ht))
    all_goals first
      | exact True.intro
      | ((try simp only [nd_s, bn_s, mm_s] at *); omega)
      | (have e := tkAll he (by omega) hl2
         refine ⟨?_, rfl⟩; rw [decide_eq_true e]; done)
      | (have hne : a ≠ b := tkNe (d := 0) (i := i) (by assumption)
         refine ⟨?_, rfl⟩; rw [decide_eq_false hne]; done)
      | exact ⟨i + 1, ⟨by omega, tkStep he (by omega) hl2 (d := 0) (by assumption)⟩, by (try simp only [nd_s, bn_s, mm_s] at *); omega, rfl, rfl⟩
      | skip
  · cases e
def ir_slices_Equal_string_string : IR :=
(.seq
(.keep [0, 1]
(.reg [oD 4 (.mov cF)]))
(.seq
(.seq
(.keep [0, 1]
(.reg [oM 6 0,
oE 7 6,
oM 8 1,
oE 9 8,
oB 10 .neq (.t 7) (.t 9)]))
(.cond (.t 10)
(.seq
(.reg [oD 4 (.mov cF)])
.ret)
.skip))
(.seq
(.seq
(.keep [0, 1]
(.reg [oM 11 0,
oE 12 11,
oD 13 (.mov (cI 0))]))
(.block 0
(.loop
(.seq
(.keep [0, 1, 12, 13]
(.reg [oB 14 .lss (.t 13) (.t 12)]))
(.seq
(.cond (.t 14)
.skip
(.exit 0))
(.seq
(.block 1
(.seq
(.reg [oM 15 13,
oM 5 15])
(.seq
(.keep [0, 1, 5, 12, 13]
(.regD [(oM 16 0, []),
(oM 17 5, [0]),
(oI 18 1 16 17, []),
(oL 19 18, []),
(oM 20 1, [0,0,0,0]),
(oM 21 5, [0,0,0,0,0]),
(oI 22 1 20 21, [2,0,0,0]),
(oL 23 22, [3,0,0,0]),
(oB 24 .neq (.t 19) (.t 23), [])]))
(.cond (.t 24)
(.seq
(.keep []
(.reg [oD 4 (.mov cF)]))
.ret)
.skip))))
(.keep [0, 1, 12, 13]
(.reg [oB 25 .add (.t 13) (cI 1),
oM 13 25]))))))))
(.seq
(.keep []
(.reg [oD 4 (.mov cT)]))
.ret))))
def rd_slices_Equal_string_string : List RD := [.tmp 4 true none]
theorem ok_slices_Equal_string_string : fnOk Tryz.prog Tryz.f95 ir_slices_Equal_string_string rd_slices_Equal_string_string = true := by kernel_rfl
def S_slices_Equal_string_string : List AV → List Obj → Option (Prop × AV)
  | [.imm .str a, .imm .str b], [] => some ((True, .bool (decide ((a : List (List Int)) = b))))
  | _, _ => none
theorem snd_slices_Equal_string_string : SoundS Tryz.prog 95 (RoF S_slices_Equal_string_string).sum := by
  refine ro_fn Tryz.func95 ok_slices_Equal_string_string (env_nil _) fun args objs p v e => ?_
  unfold S_slices_Equal_string_string at e
  split at e
  · rename_i a b
    cases e
    refine ⟨rfl, fun hw ho hp => ?_⟩
    change List (List Int) at a
    change List (List Int) at b
    have hl : a.length ≤ maxLen := (hw (.imm .str a) (by simp)).2
    unfold maxLen at hl
    clear hw ho
    repeat' (intro t ht; first | (cases t <;> first | (cases ht; done) | ((try simp only [bn_s] at ht); (try simp only [nd_s] at ht))) | (refine castG_go ht ?_; clear ht) | (refine ht ?_ ?_ <;> clear ht) | (refine ht.1 ?_ ?_ <;> clear ht) | (refine ht ?_; clear ht))
    all_goals first
      | (have hne : a ≠ b := fun h => (by assumption : ¬ (a.length : Int) = b.length) (by rw [h])
         refine ⟨?_, rfl⟩; rw [decide_eq_false hne]; done)
      | (intro r h1 h2; clear h1; refine h2 ⟨[0, 1, 12, 13], Nat, (fun i => i ≤ a.length ∧ a.take i = b.take i), fun i => [.imm .str a, .imm .str b, .int .i64 a.length, .int .i64 i], fun _ => [], fun i => a.length - i, ⟨0, ⟨Nat.zero_le _, rfl⟩, rfl, rfl⟩, ?_⟩; clear h2)
    rintro i ⟨hi, he⟩
    have hl2 : a.length = b.length := by omega
    repeat' (intro t ht; first | (cases t <;> first | (cases ht; done) | ((try simp only [bn_s] at ht); (try simp only [nd_s] at ht); (try (exfalso; first | contradiction | omega)))) | (refine castG_go ht ?_; clear ht) | (refine ht ?_ ?_ <;> clear ht) | (refine ht.1 ?_ ?_ <;> clear ht) | (refine ht ?_; clear ht))
    all_goals (try generalize (Ty.dflt .str) = od at *)
    all_goals first
      | exact True.intro
      | ((try simp only [nd_s, bn_s, mm_s] at *); omega)
      | (have e := tkAll he (by omega) hl2
         refine ⟨?_, rfl⟩; rw [decide_eq_true e]; done)
      | (have hne : a ≠ b := tkNe (d := od) (i := i) (by assumption)
         refine ⟨?_, rfl⟩; rw [decide_eq_false hne]; done)
      | exact ⟨i + 1, ⟨by omega, tkStep he (by omega) hl2 (d := od) (by assumption)⟩, by (try simp only [nd_s, bn_s, mm_s] at *); omega, rfl, rfl⟩
      | skip
  · cases e
def ir_r17_Same : IR :=
(.seq
(.keep [0, 1]
(.reg [oD 4 (.mov cF)]))
(.seq
(.seq
(.keep [0, 1]
(.reg [oM 8 0,
oE 9 8,
oM 10 1,
oE 11 10,
oB 12 .neq (.t 9) (.t 11)]))
(.cond (.t 12)
(.seq
(.reg [oD 4 (.mov cF)])
.ret)
.skip))
(.seq
(.seq
(.keep [0, 1]
(.reg [oD 5 (.mov (cI 0))]))
(.block 0
(.loop
(.seq
(.seq
(.keep [0, 1, 5]
(.reg [oM 13 5,
oM 14 0,
oE 15 14,
oB 16 .lss (.t 13) (.t 15)]))
(.cond (.t 16)
.skip
(.exit 0)))
(.seq
(.block 1
(.seq
(.keep [0, 1, 5]
(.regD [(oM 19 0, []),
(oM 20 5, [0]),
(oI 21 5 19 20, []),
(oK 22 5 21, []),
(oM 23 1, [0,0,0,0]),
(oM 24 5, [0,0,0,0,0]),
(oI 25 5 23 24, [2,0,0,0]),
(oK 26 5 25, [3,0,0,0]),
(oD 6 (.box [.int .i64 0, .int .u64 0, .int .u64 0, .int .u64 0, .imm (.int .u8) []]), [0,0,0,0,0,0,0,0]),
(oD 7 (.box [.int .i64 0, .int .u64 0, .int .u64 0, .int .u64 0, .imm (.int .u8) []]), [0,0,0,0,0,0,0,0,0]),
(oS 5 6 22, [2,0,0,0]),
(oS 5 7 26, [])]))
(.seq
(.keep [0, 1, 5, 6, 7]
(.reg [oA 27 0 6,
oL 28 27,
oA 29 0 7,
oL 30 29,
oB 31 .eql (.t 28) (.t 30),
oM 32 31,
oT 32 33 (.fieldAddr 1 (.t 6)),
oT 32 34 (.load none (.t 33)),
oT 32 35 (.fieldAddr 1 (.t 7)),
oT 32 36 (.load none (.t 35)),
oT 32 37 (.bin .eql (.t 34) (.t 36)),
oP 38 32 (.t 37) cF,
oM 39 38,
oT 39 40 (.fieldAddr 2 (.t 6)),
oT 39 41 (.load none (.t 40)),
oT 39 42 (.fieldAddr 2 (.t 7)),
oT 39 43 (.load none (.t 42)),
oT 39 44 (.bin .eql (.t 41) (.t 43)),
oP 45 39 (.t 44) cF,
oM 46 45,
oT 46 47 (.fieldAddr 3 (.t 6)),
oT 46 48 (.load none (.t 47)),
oT 46 49 (.fieldAddr 3 (.t 7)),
oT 46 50 (.load none (.t 49)),
oT 46 51 (.bin .eql (.t 48) (.t 50)),
oP 52 46 (.t 51) cF,
oM 53 52,
oT 53 54 (.fieldAddr 4 (.t 6)),
oT 53 55 (.load none (.t 54)),
oT 53 56 (.fieldAddr 4 (.t 7)),
oT 53 57 (.load none (.t 56)),
oT 53 58 (.call false (.f 12) [(.t 55), (.t 57)]),
oP 59 53 (.t 58) cF,
oD 60 (.un .not (.t 59))]))
(.cond (.t 60)
(.seq
(.keep []
(.reg [oD 4 (.mov cF)]))
.ret)
.skip))))
(.keep [0, 1, 5]
(.reg [oM 17 5,
oB 18 .add (.t 17) (cI 1),
oM 5 18])))))))
(.seq
(.keep []
(.reg [oD 4 (.mov cT)]))
.ret))))
def rd_r17_Same : List RD := [.tmp 4 true none]
theorem ok_r17_Same : fnOk Tryz.prog Tryz.f74 ir_r17_Same rd_r17_Same = true := by kernel_rfl
def S_r17_Same : List AV → List Obj → Option (Prop × AV)
  | [.imm (.cons (.int .i64) (.cons (.int .u64) (.cons (.int .u64) (.cons (.int .u64) (.cons (.sl (.int .u8)) .nil))))) a, .imm (.cons (.int .i64) (.cons (.int .u64) (.cons (.int .u64) (.cons (.int .u64) (.cons (.sl (.int .u8)) .nil))))) b], [] => some ((True, .bool (decide ((a : List VBd) = b))))
  | _, _ => none
theorem snd_r17_Same : SoundS Tryz.prog 74 (RoF S_r17_Same).sum := by
  refine ro_fn Tryz.func74 ok_r17_Same (env_cons (s := RoF S_r01_Bytes) snd_r01_Bytes (env_nil _)) fun args objs p v e => ?_
  unfold S_r17_Same at e
  split at e
  · rename_i a b
    cases e
    refine ⟨rfl, fun hw ho hp => ?_⟩
    change List VBd at a
    change List VBd at b
    have hl : a.length ≤ maxLen := (hw (.imm Y5 a) (by simp)).2
    unfold maxLen at hl
    clear hw ho
    repeat' (intro t ht; first | (cases t <;> first | (cases ht; done) | ((try simp only [bn_s] at ht); (try simp only [nd_s] at ht))) | (refine castG_go ht ?_; clear ht) | (refine ht ?_ ?_ <;> clear ht) | (refine ht.1 ?_ ?_ <;> clear ht) | (refine ht ?_; clear ht))
    all_goals first
      | (have hne : a ≠ b := fun h => (by assumption : ¬ (a.length : Int) = b.length) (by rw [h])
         refine ⟨?_, rfl⟩; rw [decide_eq_false hne]; done)
      | (intro r h1 h2; clear h1; refine h2 ⟨[0, 1, 5], Nat, (fun i => i ≤ a.length ∧ a.take i = b.take i), fun i => [.imm Y5 a, .imm Y5 b, .int .i64 i], fun _ => [], fun i => a.length - i, ⟨0, ⟨Nat.zero_le _, rfl⟩, rfl, rfl⟩, ?_⟩; clear h2)
    rintro i ⟨hi, he⟩
    have hl2 : a.length = b.length := by omega
    repeat' (intro t ht; first | (cases t <;> first | (cases ht; done) | ((try simp only [bn_s] at ht); (try simp only [nd_s] at ht); (try (exfalso; first | contradiction | omega)))) | (refine castG_go ht ?_; clear ht) | (refine ht ?_ ?_ <;> clear ht) | (refine ht.1 ?_ ?_ <;> clear ht) | (refine ht ?_; clear ht))
    all_goals (try generalize (Ty.dflt Y5) = od at *)
    all_goals first
      | exact True.intro
      | ((try simp only [nd_s, bn_s, mm_s] at *); omega)
      | (have e := tkAll he (by omega) hl2
         refine ⟨?_, rfl⟩; rw [decide_eq_true e]; done)
      | (have hne : a ≠ b := tkNe (d := od) (i := i) (ne_VBd fun h => by simp_all)
         refine ⟨?_, rfl⟩; rw [decide_eq_false hne]; done)
      | exact ⟨i + 1, ⟨by omega, tkStep he (by omega) hl2 (d := od) (eq_VBd (by simp_all))⟩, by (try simp only [nd_s, bn_s, mm_s] at *); omega, rfl, rfl⟩
      | skip
  · cases e
def ir_r18_same : IR :=
(.seq
(.keep [0, 1]
(.reg [oD 4 (.mov cF)]))
(.seq
(.seq
(.keep [0, 1]
(.reg [oM 6 0,
oE 7 6,
oM 8 1,
oE 9 8,
oB 10 .neq (.t 7) (.t 9)]))
(.cond (.t 10)
(.seq
(.reg [oD 4 (.mov cF)])
.ret)
.skip))
(.seq
(.seq
(.keep [0, 1]
(.reg [oD 5 (.mov (cI 0))]))
(.block 0
(.loop
(.seq
(.seq
(.keep [0, 1, 5]
(.reg [oM 11 5,
oM 12 0,
oE 13 12,
oB 14 .lss (.t 11) (.t 13)]))
(.cond (.t 14)
.skip
(.exit 0)))
(.seq
(.block 1
(.seq
(.keep [0, 1, 5]
(.regD [(oM 17 0, []),
(oM 18 5, [0]),
(oI 19 3 17 18, []),
(oA 20 0 19, []),
(oL 21 20, []),
(oM 22 1, [0,0,0,0,0]),
(oM 23 5, [0,0,0,0,0,0]),
(oI 24 3 22 23, [2,0,0,0,0]),
(oA 25 0 24, [3,0,0,0,0]),
(oL 26 25, [4,0,0,0,0]),
(oB 27 .neq (.t 21) (.t 26), []),
(oM 28 27, []),
(oF 28 29 (.mov (.t 0)), []),
(oF 28 30 (.mov (.t 5)), [0]),
(oF 28 31 (.indexSl 3 (.t 29) (.t 30)), []),
(oF 28 32 (.fieldAddr 1 (.t 31)), []),
(oF 28 33 (.load none (.t 32)), []),
(oF 28 34 (.mov (.t 1)), [0,0,0,0,0]),
(oF 28 35 (.mov (.t 5)), [0,0,0,0,0,0]),
(oF 28 36 (.indexSl 3 (.t 34) (.t 35)), [2,0,0,0,0]),
(oF 28 37 (.fieldAddr 1 (.t 36)), [3,0,0,0,0]),
(oF 28 38 (.load none (.t 37)), [4,0,0,0,0]),
(oF 28 39 (.bin .neq (.t 33) (.t 38)), []),
(oP 40 28 cT (.t 39), []),
(oM 41 40, []),
(oF 41 42 (.mov (.t 0)), []),
(oF 41 43 (.mov (.t 5)), [0]),
(oF 41 44 (.indexSl 3 (.t 42) (.t 43)), []),
(oF 41 45 (.fieldAddr 2 (.t 44)), []),
(oF 41 46 (.load none (.t 45)), []),
(oF 41 47 (.mov (.t 1)), [0,0,0,0,0]),
(oF 41 48 (.mov (.t 5)), [0,0,0,0,0,0]),
(oF 41 49 (.indexSl 3 (.t 47) (.t 48)), [2,0,0,0,0]),
(oF 41 50 (.fieldAddr 2 (.t 49)), [3,0,0,0,0]),
(oF 41 51 (.load none (.t 50)), [4,0,0,0,0]),
(oF 41 52 (.call false (.f 12) [(.t 46), (.t 51)]), []),
(oF 41 53 (.un .not (.t 52)), []),
(oP 54 41 cT (.t 53), [])]))
(.cond (.t 54)
(.seq
(.keep []
(.reg [oD 4 (.mov cF)]))
.ret)
.skip)))
(.keep [0, 1, 5]
(.reg [oM 15 5,
oB 16 .add (.t 15) (cI 1),
oM 5 16])))))))
(.seq
(.keep []
(.reg [oD 4 (.mov cT)]))
.ret))))
def rd_r18_same : List RD := [.tmp 4 true none]
theorem ok_r18_same : fnOk Tryz.prog Tryz.f128 ir_r18_same rd_r18_same = true := by kernel_rfl
def S_r18_same : List AV → List Obj → Option (Prop × AV)
  | [.imm (.cons (.int .i64) (.cons (.int .u64) (.cons (.sl (.int .u8)) .nil))) a, .imm (.cons (.int .i64) (.cons (.int .u64) (.cons (.sl (.int .u8)) .nil))) b], [] => some ((True, .bool (decide ((a : List VPr) = b))))
  | _, _ => none
theorem snd_r18_same : SoundS Tryz.prog 128 (RoF S_r18_same).sum := by
  refine ro_fn Tryz.func128 ok_r18_same (env_cons (s := RoF S_r01_Bytes) snd_r01_Bytes (env_nil _)) fun args objs p v e => ?_
  unfold S_r18_same at e
  split at e
  · rename_i a b
    cases e
    refine ⟨rfl, fun hw ho hp => ?_⟩
    change List VPr at a
    change List VPr at b
    have hl : a.length ≤ maxLen := (hw (.imm Y6 a) (by simp)).2
    unfold maxLen at hl
    clear hw ho
    repeat' (intro t ht; first | (cases t <;> first | (cases ht; done) | ((try simp only [bn_s] at ht); (try simp only [nd_s] at ht))) | (refine castG_go ht ?_; clear ht) | (refine ht ?_ ?_ <;> clear ht) | (refine ht.1 ?_ ?_ <;> clear ht) | (refine ht ?_; clear ht))
    all_goals first
      | (have hne : a ≠ b := fun h => (by assumption : ¬ (a.length : Int) = b.length) (by rw [h])
         refine ⟨?_, rfl⟩; rw [decide_eq_false hne]; done)
      | (intro r h1 h2; clear h1; refine h2 ⟨[0, 1, 5], Nat, (fun i => i ≤ a.length ∧ a.take i = b.take i), fun i => [.imm Y6 a, .imm Y6 b, .int .i64 i], fun _ => [], fun i => a.length - i, ⟨0, ⟨Nat.zero_le _, rfl⟩, rfl, rfl⟩, ?_⟩; clear h2)
    rintro i ⟨hi, he⟩
    have hl2 : a.length = b.length := by omega
    repeat' (intro t ht; first | (cases t <;> first | (cases ht; done) | ((try simp only [bn_s] at ht); (try simp only [nd_s] at ht); (try (exfalso; first | contradiction | omega)))) | (refine castG_go ht ?_; clear ht) | (refine ht ?_ ?_ <;> clear ht) | (refine ht.1 ?_ ?_ <;> clear ht) | (refine ht ?_; clear ht))
    all_goals (try generalize (Ty.dflt Y6) = od at *)
    all_goals first
      | exact True.intro
      | ((try simp only [nd_s, bn_s, mm_s] at *); omega)
      | (have e := tkAll he (by omega) hl2
         refine ⟨?_, rfl⟩; rw [decide_eq_true e]; done)
      | (have hne : a ≠ b := tkNe (d := od) (i := i) (ne_VPr fun h => by simp_all)
         refine ⟨?_, rfl⟩; rw [decide_eq_false hne]; done)
      | exact ⟨i + 1, ⟨by omega, tkStep he (by omega) hl2 (d := od) (eq_VPr (by simp_all))⟩, by (try simp only [nd_s, bn_s, mm_s] at *); omega, rfl, rfl⟩
      | skip
  · cases e
def ir_r18_Same : IR :=
(.seq
(.keep [0, 1]
(.reg [oD 4 (.mov cF)]))
(.seq
(.seq
(.keep [0, 1]
(.reg [oM 8 0,
oE 9 8,
oM 10 1,
oE 11 10,
oB 12 .neq (.t 9) (.t 11)]))
(.cond (.t 12)
(.seq
(.reg [oD 4 (.mov cF)])
.ret)
.skip))
(.seq
(.seq
(.keep [0, 1]
(.reg [oD 5 (.mov (cI 0))]))
(.block 0
(.loop
(.seq
(.seq
(.keep [0, 1, 5]
(.reg [oM 13 5,
oM 14 0,
oE 15 14,
oB 16 .lss (.t 13) (.t 15)]))
(.cond (.t 16)
.skip
(.exit 0)))
(.seq
(.block 1
(.seq
(.keep [0, 1, 5]
(.regD [(oM 19 0, []),
(oM 20 5, [0]),
(oI 21 3 19 20, []),
(oK 22 3 21, []),
(oM 23 1, [0,0,0,0]),
(oM 24 5, [0,0,0,0,0]),
(oI 25 3 23 24, [2,0,0,0]),
(oK 26 3 25, [3,0,0,0]),
(oD 6 (.box [.int .u64 0, .int .u64 0, .imm Y6 []]), [0,0,0,0,0,0,0,0]),
(oD 7 (.box [.int .u64 0, .int .u64 0, .imm Y6 []]), [0,0,0,0,0,0,0,0,0]),
(oS 3 6 22, [2,0,0,0]),
(oS 3 7 26, [])]))
(.seq
(.keep [0, 1, 5, 6, 7]
(.reg [oA 27 0 6,
oL 28 27,
oA 29 0 7,
oL 30 29,
oB 31 .eql (.t 28) (.t 30),
oM 32 31,
oT 32 33 (.fieldAddr 1 (.t 6)),
oT 32 34 (.load none (.t 33)),
oT 32 35 (.fieldAddr 1 (.t 7)),
oT 32 36 (.load none (.t 35)),
oT 32 37 (.bin .eql (.t 34) (.t 36)),
oP 38 32 (.t 37) cF,
oM 39 38,
oT 39 40 (.fieldAddr 2 (.t 6)),
oT 39 41 (.load none (.t 40)),
oT 39 42 (.fieldAddr 2 (.t 7)),
oT 39 43 (.load none (.t 42)),
oT 39 44 (.call false (.f 128) [(.t 41), (.t 43)]),
oP 45 39 (.t 44) cF,
oD 46 (.un .not (.t 45))]))
(.cond (.t 46)
(.seq
(.keep []
(.reg [oD 4 (.mov cF)]))
.ret)
.skip))))
(.keep [0, 1, 5]
(.reg [oM 17 5,
oB 18 .add (.t 17) (cI 1),
oM 5 18])))))))
(.seq
(.keep []
(.reg [oD 4 (.mov cT)]))
.ret))))
def rd_r18_Same : List RD := [.tmp 4 true none]
theorem ok_r18_Same : fnOk Tryz.prog Tryz.f87 ir_r18_Same rd_r18_Same = true := by kernel_rfl
def S_r18_Same : List AV → List Obj → Option (Prop × AV)
  | [.imm (.cons (.int .u64) (.cons (.int .u64) (.cons (.sl (.cons (.int .i64) (.cons (.int .u64) (.cons (.sl (.int .u8)) .nil)))) .nil))) a, .imm (.cons (.int .u64) (.cons (.int .u64) (.cons (.sl (.cons (.int .i64) (.cons (.int .u64) (.cons (.sl (.int .u8)) .nil)))) .nil))) b], [] => some ((True, .bool (decide ((a : List VQu) = b))))
  | _, _ => none
theorem snd_r18_Same : SoundS Tryz.prog 87 (RoF S_r18_Same).sum := by
  refine ro_fn Tryz.func87 ok_r18_Same (env_cons (s := RoF S_r18_same) snd_r18_same (env_nil _)) fun args objs p v e => ?_
  unfold S_r18_Same at e
  split at e
  · rename_i a b
    cases e
    refine ⟨rfl, fun hw ho hp => ?_⟩
    change List VQu at a
    change List VQu at b
    have hl : a.length ≤ maxLen := (hw (.imm Y7 a) (by simp)).2
    unfold maxLen at hl
    clear hw ho
    repeat' (intro t ht; first | (cases t <;> first | (cases ht; done) | ((try simp only [bn_s] at ht); (try simp only [nd_s] at ht))) | (refine castG_go ht ?_; clear ht) | (refine ht ?_ ?_ <;> clear ht) | (refine ht.1 ?_ ?_ <;> clear ht) | (refine ht ?_; clear ht))
    all_goals first
      | (have hne : a ≠ b := fun h => (by assumption : ¬ (a.length : Int) = b.length) (by rw [h])
         refine ⟨?_, rfl⟩; rw [decide_eq_false hne]; done)
      | (intro r h1 h2; clear h1; refine h2 ⟨[0, 1, 5], Nat, (fun i => i ≤ a.length ∧ a.take i = b.take i), fun i => [.imm Y7 a, .imm Y7 b, .int .i64 i], fun _ => [], fun i => a.length - i, ⟨0, ⟨Nat.zero_le _, rfl⟩, rfl, rfl⟩, ?_⟩; clear h2)
    rintro i ⟨hi, he⟩
    have hl2 : a.length = b.length := by omega
    repeat' (intro t ht; first | (cases t <;> first | (cases ht; done) | ((try simp only [bn_s] at ht); (try simp only [nd_s] at ht); (try (exfalso; first | contradiction | omega)))) | (refine castG_go ht ?_; clear ht) | (refine ht ?_ ?_ <;> clear ht) | (refine ht.1 ?_ ?_ <;> clear ht) | (refine ht ?_; clear ht))
    all_goals (try generalize (Ty.dflt Y7) = od at *)
    all_goals first
      | exact True.intro
      | ((try simp only [nd_s, bn_s, mm_s] at *); omega)
      | (have e := tkAll he (by omega) hl2
         refine ⟨?_, rfl⟩; rw [decide_eq_true e]; done)
      | (have hne : a ≠ b := tkNe (d := od) (i := i) (ne_VQu fun h => by simp_all)
         refine ⟨?_, rfl⟩; rw [decide_eq_false hne]; done)
      | exact ⟨i + 1, ⟨by omega, tkStep he (by omega) hl2 (d := od) (eq_VQu (by simp_all))⟩, by (try simp only [nd_s, bn_s, mm_s] at *); omega, rfl, rfl⟩
      | skip
  · cases e
def ir_r20_feats : IR :=
(.seq
(.keep [0, 1]
(.reg [oD 4 (.mov cF)]))
(.seq
(.seq
(.keep [0, 1]
(.reg [oM 6 0,
oE 7 6,
oM 8 1,
oE 9 8,
oB 10 .neq (.t 7) (.t 9)]))
(.cond (.t 10)
(.seq
(.reg [oD 4 (.mov cF)])
.ret)
.skip))
(.seq
(.seq
(.keep [0, 1]
(.reg [oD 5 (.mov (cI 0))]))
(.block 0
(.loop
(.seq
(.seq
(.keep [0, 1, 5]
(.reg [oM 11 5,
oM 12 0,
oE 13 12,
oB 14 .lss (.t 11) (.t 13)]))
(.cond (.t 14)
.skip
(.exit 0)))
(.seq
(.block 1
(.seq
(.keep [0, 1, 5]
(.regD [(oM 17 0, []),
(oM 18 5, [0]),
(oI 19 3 17 18, []),
(oA 20 0 19, []),
(oL 21 20, []),
(oM 22 1, [0,0,0,0,0]),
(oM 23 5, [0,0,0,0,0,0]),
(oI 24 3 22 23, [2,0,0,0,0]),
(oA 25 0 24, [3,0,0,0,0]),
(oL 26 25, [4,0,0,0,0]),
(oB 27 .neq (.t 21) (.t 26), []),
(oM 28 27, []),
(oF 28 29 (.mov (.t 0)), []),
(oF 28 30 (.mov (.t 5)), [0]),
(oF 28 31 (.indexSl 3 (.t 29) (.t 30)), []),
(oF 28 32 (.fieldAddr 1 (.t 31)), []),
(oF 28 33 (.load none (.t 32)), []),
(oF 28 34 (.mov (.t 1)), [0,0,0,0,0]),
(oF 28 35 (.mov (.t 5)), [0,0,0,0,0,0]),
(oF 28 36 (.indexSl 3 (.t 34) (.t 35)), [2,0,0,0,0]),
(oF 28 37 (.fieldAddr 1 (.t 36)), [3,0,0,0,0]),
(oF 28 38 (.load none (.t 37)), [4,0,0,0,0]),
(oF 28 39 (.call false (.f 17) [(.t 33), (.t 38)]), []),
(oF 28 40 (.un .not (.t 39)), []),
(oP 41 28 cT (.t 40), []),
(oM 42 41, []),
(oF 42 43 (.mov (.t 0)), []),
(oF 42 44 (.mov (.t 5)), [0]),
(oF 42 45 (.indexSl 3 (.t 43) (.t 44)), []),
(oF 42 46 (.fieldAddr 2 (.t 45)), []),
(oF 42 47 (.load none (.t 46)), []),
(oF 42 48 (.mov (.t 1)), [0,0,0,0,0]),
(oF 42 49 (.mov (.t 5)), [0,0,0,0,0,0]),
(oF 42 50 (.indexSl 3 (.t 48) (.t 49)), [2,0,0,0,0]),
(oF 42 51 (.fieldAddr 2 (.t 50)), [3,0,0,0,0]),
(oF 42 52 (.load none (.t 51)), [4,0,0,0,0]),
(oF 42 53 (.call false (.f 12) [(.t 47), (.t 52)]), []),
(oF 42 54 (.un .not (.t 53)), []),
(oP 55 42 cT (.t 54), [])]))
(.cond (.t 55)
(.seq
(.keep []
(.reg [oD 4 (.mov cF)]))
.ret)
.skip)))
(.keep [0, 1, 5]
(.reg [oM 15 5,
oB 16 .add (.t 15) (cI 1),
oM 5 16])))))))
(.seq
(.keep []
(.reg [oD 4 (.mov cT)]))
.ret))))
def rd_r20_feats : List RD := [.tmp 4 true none]
theorem ok_r20_feats : fnOk Tryz.prog Tryz.f115 ir_r20_feats rd_r20_feats = true := by kernel_rfl
def S_r20_feats : List AV → List Obj → Option (Prop × AV)
  | [.imm (.cons (.int .i64) (.cons (.sl (.int .u64)) (.cons (.sl (.int .u8)) .nil))) a, .imm (.cons (.int .i64) (.cons (.sl (.int .u64)) (.cons (.sl (.int .u8)) .nil))) b], [] => some ((True, .bool (decide ((a : List VFe) = b))))
  | _, _ => none
theorem snd_r20_feats : SoundS Tryz.prog 115 (RoF S_r20_feats).sum := by
  refine ro_fn Tryz.func115 ok_r20_feats (env_cons (s := RoF S_r01_Nums) snd_r01_Nums (env_cons (s := RoF S_r01_Bytes) snd_r01_Bytes (env_nil _))) fun args objs p v e => ?_
  unfold S_r20_feats at e
  split at e
  · rename_i a b
    cases e
    refine ⟨rfl, fun hw ho hp => ?_⟩
    change List VFe at a
    change List VFe at b
    have hl : a.length ≤ maxLen := (hw (.imm Y9 a) (by simp)).2
    unfold maxLen at hl
    clear hw ho
    repeat' (intro t ht; first | (cases t <;> first | (cases ht; done) | ((try simp only [bn_s] at ht); (try simp only [nd_s] at ht))) | (refine castG_go ht ?_; clear ht) | (refine ht ?_ ?_ <;> clear ht) | (refine ht.1 ?_ ?_ <;> clear ht) | (refine ht ?_; clear ht))
    all_goals first
      | (have hne : a ≠ b := fun h => (by assumption : ¬ (a.length : Int) = b.length) (by rw [h])
         refine ⟨?_, rfl⟩; rw [decide_eq_false hne]; done)
      | (intro r h1 h2; clear h1; refine h2 ⟨[0, 1, 5], Nat, (fun i => i ≤ a.length ∧ a.take i = b.take i), fun i => [.imm Y9 a, .imm Y9 b, .int .i64 i], fun _ => [], fun i => a.length - i, ⟨0, ⟨Nat.zero_le _, rfl⟩, rfl, rfl⟩, ?_⟩; clear h2)
    rintro i ⟨hi, he⟩
    have hl2 : a.length = b.length := by omega
    repeat' (intro t ht; first | (cases t <;> first | (cases ht; done) | ((try simp only [bn_s] at ht); (try simp only [nd_s] at ht); (try (exfalso; first | contradiction | omega)))) | (refine castG_go ht ?_; clear ht) | (refine ht ?_ ?_ <;> clear ht) | (refine ht.1 ?_ ?_ <;> clear ht) | (refine ht ?_; clear ht))
    all_goals (try generalize (Ty.dflt Y9) = od at *)
    all_goals first
      | exact True.intro
      | ((try simp only [nd_s, bn_s, mm_s] at *); omega)
      | (have e := tkAll he (by omega) hl2
         refine ⟨?_, rfl⟩; rw [decide_eq_true e]; done)
      | (have hne : a ≠ b := tkNe (d := od) (i := i) (ne_VFe fun h => by simp_all)
         refine ⟨?_, rfl⟩; rw [decide_eq_false hne]; done)
      | exact ⟨i + 1, ⟨by omega, tkStep he (by omega) hl2 (d := od) (eq_VFe (by simp_all))⟩, by (try simp only [nd_s, bn_s, mm_s] at *); omega, rfl, rfl⟩
      | skip
  · cases e
def ir_r20_Same : IR :=
(.seq
(.keep [0, 1]
(.reg [oD 4 (.mov cF)]))
(.seq
(.seq
(.keep [0, 1]
(.reg [oM 8 0,
oE 9 8,
oM 10 1,
oE 11 10,
oB 12 .neq (.t 9) (.t 11)]))
(.cond (.t 12)
(.seq
(.reg [oD 4 (.mov cF)])
.ret)
.skip))
(.seq
(.seq
(.keep [0, 1]
(.reg [oD 5 (.mov (cI 0))]))
(.block 0
(.loop
(.seq
(.seq
(.keep [0, 1, 5]
(.reg [oM 13 5,
oM 14 0,
oE 15 14,
oB 16 .lss (.t 13) (.t 15)]))
(.cond (.t 16)
.skip
(.exit 0)))
(.seq
(.block 1
(.seq
(.keep [0, 1, 5]
(.regD [(oM 19 0, []),
(oM 20 5, [0]),
(oI 21 7 19 20, []),
(oK 22 7 21, []),
(oM 23 1, [0,0,0,0]),
(oM 24 5, [0,0,0,0,0]),
(oI 25 7 23 24, [2,0,0,0]),
(oK 26 7 25, [3,0,0,0]),
(oD 6 (.box [.int .u64 0, .str [], .int .u64 0, .int .u64 0, .int .u64 0, .int .u64 0, .imm Y9 []]), [0,0,0,0,0,0,0,0]),
(oD 7 (.box [.int .u64 0, .str [], .int .u64 0, .int .u64 0, .int .u64 0, .int .u64 0, .imm Y9 []]), [0,0,0,0,0,0,0,0,0]),
(oS 7 6 22, [2,0,0,0]),
(oS 7 7 26, [])]))
(.seq
(.keep [0, 1, 5, 6, 7]
(.reg [oA 27 0 6,
oL 28 27,
oA 29 0 7,
oL 30 29,
oB 31 .eql (.t 28) (.t 30),
oM 32 31,
oT 32 33 (.fieldAddr 1 (.t 6)),
oT 32 34 (.load none (.t 33)),
oT 32 35 (.fieldAddr 1 (.t 7)),
oT 32 36 (.load none (.t 35)),
oT 32 37 (.bin .eql (.t 34) (.t 36)),
oP 38 32 (.t 37) cF,
oM 39 38,
oT 39 40 (.fieldAddr 2 (.t 6)),
oT 39 41 (.load none (.t 40)),
oT 39 42 (.fieldAddr 2 (.t 7)),
oT 39 43 (.load none (.t 42)),
oT 39 44 (.bin .eql (.t 41) (.t 43)),
oP 45 39 (.t 44) cF,
oM 46 45,
oT 46 47 (.fieldAddr 3 (.t 6)),
oT 46 48 (.load none (.t 47)),
oT 46 49 (.fieldAddr 3 (.t 7)),
oT 46 50 (.load none (.t 49)),
oT 46 51 (.bin .eql (.t 48) (.t 50)),
oP 52 46 (.t 51) cF,
oM 53 52,
oT 53 54 (.fieldAddr 4 (.t 6)),
oT 53 55 (.load none (.t 54)),
oT 53 56 (.fieldAddr 4 (.t 7)),
oT 53 57 (.load none (.t 56)),
oT 53 58 (.bin .eql (.t 55) (.t 57)),
oP 59 53 (.t 58) cF,
oM 60 59,
oT 60 61 (.fieldAddr 5 (.t 6)),
oT 60 62 (.load none (.t 61)),
oT 60 63 (.fieldAddr 5 (.t 7)),
oT 60 64 (.load none (.t 63)),
oT 60 65 (.bin .eql (.t 62) (.t 64)),
oP 66 60 (.t 65) cF,
oM 67 66,
oT 67 68 (.fieldAddr 6 (.t 6)),
oT 67 69 (.load none (.t 68)),
oT 67 70 (.fieldAddr 6 (.t 7)),
oT 67 71 (.load none (.t 70)),
oT 67 72 (.call false (.f 115) [(.t 69), (.t 71)]),
oP 73 67 (.t 72) cF,
oD 74 (.un .not (.t 73))]))
(.cond (.t 74)
(.seq
(.keep []
(.reg [oD 4 (.mov cF)]))
.ret)
.skip))))
(.keep [0, 1, 5]
(.reg [oM 17 5,
oB 18 .add (.t 17) (cI 1),
oM 5 18])))))))
(.seq
(.keep []
(.reg [oD 4 (.mov cT)]))
.ret))))
def rd_r20_Same : List RD := [.tmp 4 true none]
theorem ok_r20_Same : fnOk Tryz.prog Tryz.f76 ir_r20_Same rd_r20_Same = true := by kernel_rfl
def S_r20_Same : List AV → List Obj → Option (Prop × AV)
  | [.imm ty0 a, .imm ty1 b], [] => castO ty0 YA a fun a => castO ty1 YA b fun b => some ((True, .bool (decide ((a : List VTb) = b))))
  | _, _ => none
theorem snd_r20_Same : SoundS Tryz.prog 76 (RoF S_r20_Same).sum := by
  refine ro_fn Tryz.func76 ok_r20_Same (env_cons (s := RoF S_r20_feats) snd_r20_feats (env_nil _)) fun args objs p v e => ?_
  unfold S_r20_Same at e
  split at e
  · rename_i ty0 a ty1 b
    obtain rfl := castO_ty e
    replace e := castO_go e
    obtain rfl := castO_ty e
    replace e := castO_go e
    cases e
    refine ⟨rfl, fun hw ho hp => ?_⟩
    change List VTb at a
    change List VTb at b
    have hl : a.length ≤ maxLen := (hw (.imm YA a) (by simp)).2
    unfold maxLen at hl
    clear hw ho
    repeat' (intro t ht; first | (cases t <;> first | (cases ht; done) | ((try simp only [bn_s] at ht); (try simp only [nd_s] at ht))) | (refine castG_go ht ?_; clear ht) | (refine ht ?_ ?_ <;> clear ht) | (refine ht.1 ?_ ?_ <;> clear ht) | (refine ht ?_; clear ht))
    all_goals first
      | (have hne : a ≠ b := fun h => (by assumption : ¬ (a.length : Int) = b.length) (by rw [h])
         refine ⟨?_, rfl⟩; rw [decide_eq_false hne]; done)
      | (intro r h1 h2; clear h1; refine h2 ⟨[0, 1, 5], Nat, (fun i => i ≤ a.length ∧ a.take i = b.take i), fun i => [.imm YA a, .imm YA b, .int .i64 i], fun _ => [], fun i => a.length - i, ⟨0, ⟨Nat.zero_le _, rfl⟩, rfl, rfl⟩, ?_⟩; clear h2)
    rintro i ⟨hi, he⟩
    have hl2 : a.length = b.length := by omega
    repeat' (intro t ht; first | (cases t <;> first | (cases ht; done) | ((try simp only [bn_s] at ht); (try simp only [nd_s] at ht); (try (exfalso; first | contradiction | omega)))) | (refine castG_go ht ?_; clear ht) | (refine ht ?_ ?_ <;> clear ht) | (refine ht.1 ?_ ?_ <;> clear ht) | (refine ht ?_; clear ht))
    all_goals (try generalize (Ty.dflt YA) = od at *)
    all_goals first
      | exact True.intro
      | ((try simp only [nd_s, bn_s, mm_s] at *); omega)
      | (have e := tkAll he (by omega) hl2
         refine ⟨?_, rfl⟩; rw [decide_eq_true e]; done)
      | (have hne : a ≠ b := tkNe (d := od) (i := i) (ne_VTb fun h => by simp_all)
         refine ⟨?_, rfl⟩; rw [decide_eq_false hne]; done)
      | exact ⟨i + 1, ⟨by omega, tkStep he (by omega) hl2 (d := od) (eq_VTb (by simp_all))⟩, by (try simp only [nd_s, bn_s, mm_s] at *); omega, rfl, rfl⟩
      | skip
  · cases e
def ir_r15_Same : IR :=
(.seq
(.keep [0, 1]
(.reg [oD 4 (.mov cF)]))
(.seq
(.seq
(.keep [0, 1]
(.reg [oM 8 0,
oE 9 8,
oM 10 1,
oE 11 10,
oB 12 .neq (.t 9) (.t 11)]))
(.cond (.t 12)
(.seq
(.reg [oD 4 (.mov cF)])
.ret)
.skip))
(.seq
(.seq
(.keep [0, 1]
(.reg [oD 5 (.mov (cI 0))]))
(.block 0
(.loop
(.seq
(.seq
(.keep [0, 1, 5]
(.reg [oM 13 5,
oM 14 0,
oE 15 14,
oB 16 .lss (.t 13) (.t 15)]))
(.cond (.t 16)
.skip
(.exit 0)))
(.seq
(.block 1
(.seq
(.keep [0, 1, 5]
(.regD [(oM 19 0, []),
(oM 20 5, [0]),
(oI 21 5 19 20, []),
(oK 22 5 21, []),
(oM 23 1, [0,0,0,0]),
(oM 24 5, [0,0,0,0,0]),
(oI 25 5 23 24, [2,0,0,0]),
(oK 26 5 25, [3,0,0,0]),
(oD 6 (.box [.int .i64 0, .int .u64 0, .int .u64 0, .imm Y2 [], .imm (.int .u8) []]), [0,0,0,0,0,0,0,0]),
(oD 7 (.box [.int .i64 0, .int .u64 0, .int .u64 0, .imm Y2 [], .imm (.int .u8) []]), [0,0,0,0,0,0,0,0,0]),
(oS 5 6 22, [2,0,0,0]),
(oS 5 7 26, [])]))
(.seq
(.keep [0, 1, 5, 6, 7]
(.reg [oA 27 0 6,
oL 28 27,
oA 29 0 7,
oL 30 29,
oB 31 .neq (.t 28) (.t 30),
oM 32 31,
oF 32 33 (.fieldAddr 1 (.t 6)),
oF 32 34 (.load none (.t 33)),
oF 32 35 (.fieldAddr 1 (.t 7)),
oF 32 36 (.load none (.t 35)),
oF 32 37 (.bin .neq (.t 34) (.t 36)),
oP 38 32 cT (.t 37),
oM 39 38,
oF 39 40 (.fieldAddr 2 (.t 6)),
oF 39 41 (.load none (.t 40)),
oF 39 42 (.fieldAddr 2 (.t 7)),
oF 39 43 (.load none (.t 42)),
oF 39 44 (.bin .neq (.t 41) (.t 43)),
oP 45 39 cT (.t 44),
oM 46 45,
oF 46 47 (.fieldAddr 3 (.t 6)),
oF 46 48 (.load none (.t 47)),
oF 46 49 (.fieldAddr 3 (.t 7)),
oF 46 50 (.load none (.t 49)),
oF 46 51 (.call false (.f 86) [(.t 48), (.t 50)]),
oF 46 52 (.un .not (.t 51)),
oP 53 46 cT (.t 52),
oM 54 53,
oF 54 55 (.fieldAddr 4 (.t 6)),
oF 54 56 (.load none (.t 55)),
oF 54 57 (.fieldAddr 4 (.t 7)),
oF 54 58 (.load none (.t 57)),
oF 54 59 (.call false (.f 12) [(.t 56), (.t 58)]),
oF 54 60 (.un .not (.t 59)),
oP 61 54 cT (.t 60)]))
(.cond (.t 61)
(.seq
(.keep []
(.reg [oD 4 (.mov cF)]))
.ret)
.skip))))
(.keep [0, 1, 5]
(.reg [oM 17 5,
oB 18 .add (.t 17) (cI 1),
oM 5 18])))))))
(.seq
(.keep []
(.reg [oD 4 (.mov cT)]))
.ret))))
def rd_r15_Same : List RD := [.tmp 4 true none]
theorem ok_r15_Same : fnOk Tryz.prog Tryz.f72 ir_r15_Same rd_r15_Same = true := by kernel_rfl
def S_r15_Same : List AV → List Obj → Option (Prop × AV)
  | [.imm ty0 a, .imm ty1 b], [] => castO ty0 Y3 a fun a => castO ty1 Y3 b fun b => some ((True, .bool (decide ((a : List VIn) = b))))
  | _, _ => none
theorem snd_r15_Same : SoundS Tryz.prog 72 (RoF S_r15_Same).sum := by
  refine ro_fn Tryz.func72 ok_r15_Same (env_cons (s := RoF S_r13_Same) snd_r13_Same (env_cons (s := RoF S_r01_Bytes) snd_r01_Bytes (env_nil _))) fun args objs p v e => ?_
  unfold S_r15_Same at e
  split at e
  · rename_i ty0 a ty1 b
    obtain rfl := castO_ty e
    replace e := castO_go e
    obtain rfl := castO_ty e
    replace e := castO_go e
    cases e
    refine ⟨rfl, fun hw ho hp => ?_⟩
    change List VIn at a
    change List VIn at b
    have hl : a.length ≤ maxLen := (hw (.imm Y3 a) (by simp)).2
    unfold maxLen at hl
    clear hw ho
    repeat' (intro t ht; first | (cases t <;> first | (cases ht; done) | ((try simp only [bn_s] at ht); (try simp only [nd_s] at ht))) | (refine castG_go ht ?_; clear ht) | (refine ht ?_ ?_ <;> clear ht) | (refine ht.1 ?_ ?_ <;> clear ht) | (refine ht ?_; clear ht))
    all_goals first
      | (have hne : a ≠ b := fun h => (by assumption : ¬ (a.length : Int) = b.length) (by rw [h])
         refine ⟨?_, rfl⟩; rw [decide_eq_false hne]; done)
      | (intro r h1 h2; clear h1; refine h2 ⟨[0, 1, 5], Nat, (fun i => i ≤ a.length ∧ a.take i = b.take i), fun i => [.imm Y3 a, .imm Y3 b, .int .i64 i], fun _ => [], fun i => a.length - i, ⟨0, ⟨Nat.zero_le _, rfl⟩, rfl, rfl⟩, ?_⟩; clear h2)
    rintro i ⟨hi, he⟩
    have hl2 : a.length = b.length := by omega
    repeat' (intro t ht; first | (cases t <;> first | (cases ht; done) | ((try simp only [bn_s] at ht); (try simp only [nd_s] at ht); (try (exfalso; first | contradiction | omega)))) | (refine castG_go ht ?_; clear ht) | (refine ht ?_ ?_ <;> clear ht) | (refine ht.1 ?_ ?_ <;> clear ht) | (refine ht ?_; clear ht))
    all_goals (try generalize (Ty.dflt Y3) = od at *)
    all_goals first
      | exact True.intro
      | ((try simp only [nd_s, bn_s, mm_s] at *); omega)
      | (have e := tkAll he (by omega) hl2
         refine ⟨?_, rfl⟩; rw [decide_eq_true e]; done)
      | (have hne : a ≠ b := tkNe (d := od) (i := i) (ne_VIn fun h => by simp_all)
         refine ⟨?_, rfl⟩; rw [decide_eq_false hne]; done)
      | exact ⟨i + 1, ⟨by omega, tkStep he (by omega) hl2 (d := od) (eq_VIn (by simp_all))⟩, by (try simp only [nd_s, bn_s, mm_s] at *); omega, rfl, rfl⟩
      | skip
  · cases e
def ir_r21_elems : IR :=
(.seq
(.keep [0, 1]
(.reg [oD 4 (.mov cF)]))
(.seq
(.seq
(.keep [0, 1]
(.reg [oM 6 0,
oE 7 6,
oM 8 1,
oE 9 8,
oB 10 .neq (.t 7) (.t 9)]))
(.cond (.t 10)
(.seq
(.reg [oD 4 (.mov cF)])
.ret)
.skip))
(.seq
(.seq
(.keep [0, 1]
(.reg [oD 5 (.mov (cI 0))]))
(.block 0
(.loop
(.seq
(.seq
(.keep [0, 1, 5]
(.reg [oM 11 5,
oM 12 0,
oE 13 12,
oB 14 .lss (.t 11) (.t 13)]))
(.cond (.t 14)
.skip
(.exit 0)))
(.seq
(.block 1
(.seq
(.keep [0, 1, 5]
(.regD [(oM 17 0, []),
(oM 18 5, [0]),
(oI 19 2 17 18, []),
(oA 20 0 19, []),
(oL 21 20, []),
(oM 22 1, [0,0,0,0,0]),
(oM 23 5, [0,0,0,0,0,0]),
(oI 24 2 22 23, [2,0,0,0,0]),
(oA 25 0 24, [3,0,0,0,0]),
(oL 26 25, [4,0,0,0,0]),
(oB 27 .neq (.t 21) (.t 26), []),
(oM 28 27, []),
(oF 28 29 (.mov (.t 0)), []),
(oF 28 30 (.mov (.t 5)), [0]),
(oF 28 31 (.indexSl 2 (.t 29) (.t 30)), []),
(oF 28 32 (.fieldAddr 1 (.t 31)), []),
(oF 28 33 (.load none (.t 32)), []),
(oF 28 34 (.mov (.t 1)), [0,0,0,0,0]),
(oF 28 35 (.mov (.t 5)), [0,0,0,0,0,0]),
(oF 28 36 (.indexSl 2 (.t 34) (.t 35)), [2,0,0,0,0]),
(oF 28 37 (.fieldAddr 1 (.t 36)), [3,0,0,0,0]),
(oF 28 38 (.load none (.t 37)), [4,0,0,0,0]),
(oF 28 39 (.call false (.f 12) [(.t 33), (.t 38)]), []),
(oF 28 40 (.un .not (.t 39)), []),
(oP 41 28 cT (.t 40), [])]))
(.cond (.t 41)
(.seq
(.keep []
(.reg [oD 4 (.mov cF)]))
.ret)
.skip)))
(.keep [0, 1, 5]
(.reg [oM 15 5,
oB 16 .add (.t 15) (cI 1),
oM 5 16])))))))
(.seq
(.keep []
(.reg [oD 4 (.mov cT)]))
.ret))))
def rd_r21_elems : List RD := [.tmp 4 true none]
theorem ok_r21_elems : fnOk Tryz.prog Tryz.f85 ir_r21_elems rd_r21_elems = true := by kernel_rfl
def S_r21_elems : List AV → List Obj → Option (Prop × AV)
  | [.imm (.cons (.int .i64) (.cons (.sl (.int .u8)) .nil)) a, .imm (.cons (.int .i64) (.cons (.sl (.int .u8)) .nil)) b], [] => some ((True, .bool (decide ((a : List VEl) = b))))
  | _, _ => none
theorem snd_r21_elems : SoundS Tryz.prog 85 (RoF S_r21_elems).sum := by
  refine ro_fn Tryz.func85 ok_r21_elems (env_cons (s := RoF S_r01_Bytes) snd_r01_Bytes (env_nil _)) fun args objs p v e => ?_
  unfold S_r21_elems at e
  split at e
  · rename_i a b
    cases e
    refine ⟨rfl, fun hw ho hp => ?_⟩
    change List VEl at a
    change List VEl at b
    have hl : a.length ≤ maxLen := (hw (.imm YB a) (by simp)).2
    unfold maxLen at hl
    clear hw ho
    repeat' (intro t ht; first | (cases t <;> first | (cases ht; done) | ((try simp only [bn_s] at ht); (try simp only [nd_s] at ht))) | (refine castG_go ht ?_; clear ht) | (refine ht ?_ ?_ <;> clear ht) | (refine ht.1 ?_ ?_ <;> clear ht) | (refine ht ?_; clear ht))
    all_goals first
      | (have hne : a ≠ b := fun h => (by assumption : ¬ (a.length : Int) = b.length) (by rw [h])
         refine ⟨?_, rfl⟩; rw [decide_eq_false hne]; done)
      | (intro r h1 h2; clear h1; refine h2 ⟨[0, 1, 5], Nat, (fun i => i ≤ a.length ∧ a.take i = b.take i), fun i => [.imm YB a, .imm YB b, .int .i64 i], fun _ => [], fun i => a.length - i, ⟨0, ⟨Nat.zero_le _, rfl⟩, rfl, rfl⟩, ?_⟩; clear h2)
    rintro i ⟨hi, he⟩
    have hl2 : a.length = b.length := by omega
    repeat' (intro t ht; first | (cases t <;> first | (cases ht; done) | ((try simp only [bn_s] at ht); (try simp only [nd_s] at ht); (try (exfalso; first | contradiction | omega)))) | (refine castG_go ht ?_; clear ht) | (refine ht ?_ ?_ <;> clear ht) | (refine ht.1 ?_ ?_ <;> clear ht) | (refine ht ?_; clear ht))
    all_goals (try generalize (Ty.dflt YB) = od at *)
    all_goals first
      | exact True.intro
      | ((try simp only [nd_s, bn_s, mm_s] at *); omega)
      | (have e := tkAll he (by omega) hl2
         refine ⟨?_, rfl⟩; rw [decide_eq_true e]; done)
      | (have hne : a ≠ b := tkNe (d := od) (i := i) (ne_VEl fun h => by simp_all)
         refine ⟨?_, rfl⟩; rw [decide_eq_false hne]; done)
      | exact ⟨i + 1, ⟨by omega, tkStep he (by omega) hl2 (d := od) (eq_VEl (by simp_all))⟩, by (try simp only [nd_s, bn_s, mm_s] at *); omega, rfl, rfl⟩
      | skip
  · cases e
end Go.Eng
