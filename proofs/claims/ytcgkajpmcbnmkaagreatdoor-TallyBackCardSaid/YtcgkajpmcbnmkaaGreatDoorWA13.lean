/- Parts of the proof: P2, P3, W1, W9. No condition. -/
import Derived.Test.YtcgkajpmcbnmkaaGreatDoorProg
import Derived.Test.YtcgkajpmcbnmkaaGreatDoorWA10
import Derived.KernelRfl
import Derived.Lib.BytesEntry
import Derived.Lib.Walk
import Derived.Laws.Externs
import Derived.Lib.Strings
import Derived.Lib.Slices
import Derived.Test.YtcgkajpmcbnmkaaGreatDoorWA12
namespace Go.Eng
open Go.Proofs
set_option linter.unusedVariables false
set_option linter.unusedSimpArgs false
set_option maxRecDepth 100000
set_option maxHeartbeats 1000000
def idxA (c : Int) : List Int → Int → Int
  | [], _ => -1
  | b :: l, i => if b = c then i else idxA c l (i + 1)
theorem byte_inj {b c : Int} (hb : 0 ≤ b ∧ b ≤ 255) (hc : 0 ≤ c ∧ c ≤ 255) : (UInt8.ofNat b.toNat == c.toNat.toUInt8) = decide (b = c) := by
  rw [Bool.eq_iff_iff, beq_iff_eq, decide_eq_true_eq]
  constructor
  · intro h
    have h2 := congrArg UInt8.toNat h
    rw [UInt8.toNat_ofNat', Nat.toUInt8, UInt8.toNat_ofNat', Nat.mod_eq_of_lt (by omega), Nat.mod_eq_of_lt (by omega)] at h2
    omega
  · rintro rfl; rfl
theorem idxA_eq {c : Int} (hc : 0 ≤ c ∧ c ≤ 255) : ∀ (xs : List Int) (i : Int), (∀ x ∈ xs, 0 ≤ x ∧ x ≤ 255) → 0 ≤ i →
    (Go.Lib.indexByte (Go.Lib.bytesOf xs) c.toNat.toUInt8 = -1 ∧ idxA c xs i = -1) ∨ (0 ≤ Go.Lib.indexByte (Go.Lib.bytesOf xs) c.toNat.toUInt8 ∧ idxA c xs i = i + Go.Lib.indexByte (Go.Lib.bytesOf xs) c.toNat.toUInt8)
  | [], i, _, _ => .inl ⟨rfl, rfl⟩
  | b :: l, i, h, h0 => by
    have ih := idxA_eq hc l (i + 1) (fun x hx => h x (List.mem_cons_of_mem _ hx)) (by omega)
    have e := byte_inj (h b (List.mem_cons_self ..)) hc
    have e0 : Go.Lib.bytesOf (b :: l) = UInt8.ofNat b.toNat :: Go.Lib.bytesOf l := rfl
    rw [e0]
    unfold Go.Lib.indexByte idxA
    rw [e]
    by_cases hbc : b = c
    · rw [if_pos hbc, decide_eq_true hbc]; simp
    · rw [if_neg hbc, decide_eq_false hbc]
      simp only [Bool.false_eq_true, if_false]
      rcases ih with ⟨h1, h2⟩ | ⟨h1, h2⟩
      · left; rw [h1, h2]; exact ⟨rfl, rfl⟩
      · right
        have : (Go.Lib.indexByte (Go.Lib.bytesOf l) c.toNat.toUInt8 == -1) = false := by rw [beq_eq_false_iff_ne]; omega
        rw [this, h2]; simp only [Bool.false_eq_true, if_false]; omega
theorem idxA_zero {c : Int} (hc : 0 ≤ c ∧ c ≤ 255) {xs : List Int} (h : ∀ x ∈ xs, 0 ≤ x ∧ x ≤ 255) : Go.Lib.indexByte (Go.Lib.bytesOf xs) c.toNat.toUInt8 = idxA c xs 0 := by
  rcases idxA_eq hc xs 0 h (Int.le_refl _) with ⟨h1, h2⟩ | ⟨h1, h2⟩ <;> rw [h2] <;> omega
theorem idxA_le {c : Int} : ∀ (xs : List Int) (i : Int), 0 ≤ i → -1 ≤ idxA c xs i ∧ idxA c xs i < i + xs.length ∨ idxA c xs i = -1
  | [], i, _ => .inr rfl
  | b :: l, i, h => by
    unfold idxA
    split
    · left; simp only [List.length_cons]; omega
    · rcases idxA_le (c := c) l (i + 1) (by omega) with h1 | h1
      · left; simp only [List.length_cons]; omega
      · exact .inr h1
theorem idx_run {P : Program} {w : World} {ao : Option Addr} {n c : Nat} {xs : List Int} (cv : Int) (hl : (Extern.Bytes.bytesOf (.slice ao n c)).run P w = .ok ⟨(Go.Lib.bytesOf xs).toArray⟩ w) :
    (Extern.BytealgIndexByte.indexByte #[.slice ao n c, .int .u8 cv]).run P w = .ok (.int .i64 (Go.Lib.indexByte (Go.Lib.bytesOf xs) cv.toNat.toUInt8)) w := by
  have hs := Go.Lib.run_indexByteString (P := P) ⟨(Go.Lib.bytesOf xs).toArray⟩ cv w
  change Sem.run P (do
    let b ← Extern.Bytes.bytesOf (.slice ao n c)
    let c ← Extern.Bytes.asByte (.int .u8 cv)
    match (List.range b.size).find? fun i => b[i]! == c with
    | some i => pure (goInt i)
    | none => pure (goInt (-1))) w = _
  change Sem.run P (do
    let b ← Extern.Bytes.bytesOf (.string ⟨(Go.Lib.bytesOf xs).toArray⟩)
    let c ← Extern.Bytes.asByte (.int .u8 cv)
    match (List.range b.size).find? fun i => b[i]! == c with
    | some i => pure (goInt i)
    | none => pure (goInt (-1))) w = _ at hs
  rw [Sem.run_bind, hl]
  exact hs
theorem idx_load {P : Program} {I : Nat → Prop} {w : World} {ao : Option Addr} {n c : Nat} {xs : List Int} (h : RS I w (.int .u8) xs ao n c) :
    (Extern.Bytes.bytesOf (.slice ao n c)).run P w = .ok ⟨(Go.Lib.bytesOf xs).toArray⟩ w := by
  obtain ⟨h1, h2, h3, h4⟩ := h
  change List Int at xs
  cases ao with
  | none =>
    have : xs = [] := by
      cases xs with
      | nil => rfl
      | cons a l => obtain ⟨b, o, e, _⟩ := h4 (by rw [h1]; simp); cases e
    subst this; rfl
  | some a =>
    have hl := Go.Lib.run_loadBytesX (P := P) w xs a .empty (fun j x hj => by
      have hjl : j < xs.length := (List.getElem?_eq_some_iff.1 hj).1
      obtain ⟨b, o, e, _, h5⟩ := h4 (by omega)
      cases e
      obtain ⟨es, h6, h7⟩ := h5 j hjl
      simp only [RC] at h6
      obtain ⟨rfl, _⟩ := h6
      have h8 := h7 0 (by simp)
      have e : (⟨b, o, none⟩ : Addr).add j = ⟨b, o + j * (Ty.int .u8).size + 0, none⟩ := by
        show _ = (⟨b, o + j * 1 + 0, none⟩ : Addr)
        unfold Addr.add; split <;> simp_all
      rw [e, h8]
      have : xs[j]? = some xs[j] := List.getElem?_eq_getElem hjl
      rw [this] at hj; cases hj; rfl)
    show (Extern.Bytes.loadBytes a n .empty).run P w = _
    rw [h1, hl]
    have he : (ByteArray.empty.data ++ (Go.Lib.bytesOf xs).toArray) = (Go.Lib.bytesOf xs).toArray := by
      show (#[] : Array UInt8) ++ _ = _
      simp
    rw [he]
def S_bytes_IndexByte : List AV → List Obj → Option (Prop × AV)
  | [.imm (.int .u8) s, .int .u8 c], [] => some (True, .int .i64 (idxA c s 0))
  | _, _ => none
theorem cal_bytes_IndexByte {I : Nat → Prop} {xs : List Int} {ao : Option Addr} {n cap : Nat} {c : Int} {w : World} (h : RS I w (.int .u8) xs ao n cap) :
    Calls Tryz.prog 140 #[.slice ao n cap, .int .u8 c] w fun e w' => e = .returned (.int .i64 (Go.Lib.indexByte (Go.Lib.bytesOf xs) c.toNat.toUInt8)) ∧ w' = w := by
  have hr := idx_run (P := Tryz.prog) c (idx_load h)
  go_enter Tryz.func140, Tryz.ntmps140
  go_wp2
  rw [run_callFunc_extern Tryz.func153 (by kernel_rfl) (by kernel_rfl) (by kernel_rfl) (e := Extern.BytealgIndexByte.indexByte) (by kernel_rfl), hr]
  simp only [Result.andThen]
  rw [Oper.upon_value]
  go_wp2
  go_ret
  exact ⟨rfl, rfl⟩
theorem snd_bytes_IndexByte : SoundS Tryz.prog 140 (RoF S_bytes_IndexByte).sum := by
  refine ⟨⟨_, Tryz.func140, by kernel_rfl, by kernel_rfl⟩, ro_det _, fun {I w m args cargs objs K} hH hA hu hS => ?_⟩
  simp only [RoF, SumK.sum] at hS
  split at hS
  · rename_i p v e
    obtain ⟨hp, hk⟩ := need_both hS
    have hwf := RVL2_wf hA
    unfold S_bytes_IndexByte at e
    split at e
    · rename_i s c
      cases e
      obtain ⟨l⟩ := cargs
      match l, hA with
      | [a, b], hA =>
        obtain ⟨h1, h2, _⟩ := hA
        obtain ⟨ao, n, cap, rfl, hs⟩ : ∃ ao len cap, a = .slice ao len cap ∧ RS I w (.int .u8) s ao len cap := h1
        obtain ⟨rfl, hc⟩ : b = .int .u8 c ∧ inK .u8 c := h2
        have hb : ∀ x ∈ (s : List Int), (0 : Int) ≤ x ∧ x ≤ 255 := fun x hx => (hwf (.imm (.int .u8) s) (by simp)).1 x hx
        have hsl : List.length (α := Int) s ≤ maxLen := (hwf (.imm (.int .u8) s) (by simp)).2
        refine (cal_bytes_IndexByte hs).mono ?_
        rintro e w' ⟨rfl, rfl⟩
        rw [idxA_zero hc hb]
        have hle := idxA_le (c := c) s 0 (Int.le_refl _)
        unfold maxLen at hsl
        exact ⟨_, _, _, I, m, rfl, hk, ⟨⟨rfl, by unfold inK; rw [min_i64, max_i64]; change List Int at s; omega⟩, hH, Evo.refl _ _ _, hu, Nat.le_refl _, Fr.refl _ _, fun b h => .inl h, fun i o b h1 h2 h3 => .inr ⟨i, o, h1, h2, fun h => h, h3⟩⟩⟩
    · cases e
  · exact hS.elim
def ir_bytes_Index : IR :=
(.seq
(.keep [0, 1]
(.reg [oD 4 (.mov (cI 0))]))
(.seq
(.reg [oM 20 1,
oE 21 20,
oM 5 21])
(.seq
(.block 0
(.seq
(.reg [oM 23 5,
oB 24 .eql (.t 23) (cI 0),
oM 22 24])
(.cond (.t 22)
(.seq
(.keep []
(.reg [oD 4 (.mov (cI 0))]))
.ret)
(.seq
(.keep [0, 1, 5]
(.reg [oM 26 5,
oB 27 .eql (.t 26) (cI 1),
oM 25 27]))
(.cond (.t 25)
(.seq
(.keep [0, 1]
(.reg [oM 28 0,
oM 29 1,
oD 30 (.indexSl 1 (.t 29) (cI 0)),
oL 31 30,
oC 32 140 [.t 28, .t 31],
oM 4 32]))
.ret)
(.seq
(.keep [0, 1, 5]
(.reg [oM 34 5,
oM 35 0,
oE 36 35,
oB 37 .eql (.t 34) (.t 36),
oM 33 37]))
(.cond (.t 33)
(.seq
(.seq
(.reg [oM 38 1,
oM 39 0,
oC 40 53 [.t 38, .t 39]])
(.cond (.t 40)
(.seq
(.keep []
(.reg [oD 4 (.mov (cI 0))]))
.ret)
.skip))
(.seq
(.keep []
(.reg [oD 4 (.mov (cI (-1)))]))
.ret))
(.seq
(.keep [0, 1, 5]
(.reg [oM 42 5,
oM 43 0,
oE 44 43,
oB 45 .gtr (.t 42) (.t 44),
oM 41 45]))
(.cond (.t 41)
(.seq
(.reg [oD 4 (.mov (cI (-1)))])
.ret)
(.seq
(.reg [oM 47 5,
oD 48 (.bad),
oB 49 .leq (.t 47) (.t 48),
oM 46 49])
(.cond (.t 46)
(.seq
(.seq
(.keep [0, 1, 5]
(.reg [oM 50 0,
oE 51 50,
oB 52 .leq (.t 51) (cI 64)]))
(.cond (.t 52)
(.seq
(.reg [oM 53 0,
oM 54 1,
oC 55 141 [.t 53, .t 54],
oM 4 55])
.ret)
.skip))
(.seq
(.keep [0, 1, 5]
(.reg [oM 56 1,
oD 57 (.indexSl 1 (.t 56) (cI 0)),
oL 58 57,
oM 6 58]))
(.seq
(.reg [oM 59 1,
oD 60 (.indexSl 1 (.t 59) (cI 1)),
oL 61 60,
oM 7 61])
(.seq
(.keep [0, 1, 5, 6, 7]
(.reg [oD 8 (.mov (cI 0))]))
(.seq
(.keep [0, 1, 5, 6, 7, 8]
(.reg [oM 62 0,
oE 63 62,
oM 64 5,
oB 65 .sub (.t 63) (.t 64),
oB 66 .add (.t 65) (cI 1),
oM 9 66]))
(.seq
(.reg [oD 10 (.mov (cI 0))])
(.seq
(.block 1
(.loop
(.seq
(.seq
(.keep [0, 1, 5, 6, 7, 8, 9, 10]
(.reg [oM 67 8,
oM 68 9,
oB 69 .lss (.t 67) (.t 68)]))
(.cond (.t 69)
.skip
(.exit 1)))
(.block 2
(.seq
(.seq
(.keep [0, 1, 5, 6, 7, 8, 9, 10]
(.reg [oM 70 0,
oM 71 8,
oI 72 1 70 71,
oL 73 72,
oM 74 6,
oB 75 .neq (.t 73) (.t 74)]))
(.cond (.t 75)
(.seq
(.keep [0, 1, 5, 6, 7, 8, 9, 10]
(.reg [oM 76 0,
oM 77 8,
oB 78 .add (.t 77) (cI 1),
oM 79 9,
oD 80 (.slice 1 (.t 76) (some (.t 78)) (some (.t 79)) none),
oM 81 6,
oC 82 140 [.t 80, .t 81],
oM 11 82]))
(.seq
(.seq
(.keep [0, 1, 5, 6, 7, 8, 9, 10, 11]
(.reg [oM 83 11,
oB 84 .lss (.t 83) (cI 0)]))
(.cond (.t 84)
(.seq
(.reg [oD 4 (.mov (cI (-1)))])
.ret)
.skip))
(.keep [0, 1, 5, 6, 7, 8, 9, 10, 11]
(.reg [oM 85 8,
oM 86 11,
oB 87 .add (.t 86) (cI 1),
oB 88 .add (.t 85) (.t 87),
oM 8 88]))))
.skip))
(.seq
(.seq
(.keep [0, 1, 5, 6, 7, 8, 9, 10]
(.reg [oM 89 0,
oM 90 8,
oB 91 .add (.t 90) (cI 1),
oI 92 1 89 91,
oL 93 92,
oM 94 7,
oB 95 .eql (.t 93) (.t 94),
oM 96 95,
oT 96 97 (.mov (.t 0)),
oT 96 98 (.mov (.t 8)),
oT 96 99 (.mov (.t 8)),
oT 96 100 (.mov (.t 5)),
oT 96 101 (.bin .add (.t 99) (.t 100)),
oT 96 102 (.slice 1 (.t 97) (some (.t 98)) (some (.t 101)) none),
oT 96 103 (.mov (.t 1)),
oT 96 104 (.call false (.f 53) [(.t 102), (.t 103)]),
oP 105 96 (.t 104) cF]))
(.cond (.t 105)
(.seq
(.keep [8]
(.reg [oM 106 8,
oM 4 106]))
.ret)
.skip))
(.seq
(.keep [0, 1, 5, 6, 7, 8, 9, 10]
(.reg [oM 107 10,
oB 108 .add (.t 107) (cI 1),
oM 10 108]))
(.seq
(.reg [oM 109 8,
oB 110 .add (.t 109) (cI 1),
oM 8 110])
(.seq
(.reg [oM 111 10,
oM 112 8,
oC 113 142 [.t 112],
oB 114 .gtr (.t 111) (.t 113)])
(.cond (.t 114)
(.seq
(.keep [0, 1, 8]
(.reg [oM 115 0,
oM 116 8,
oD 117 (.slice 1 (.t 115) (some (.t 116)) none none),
oM 118 1,
oC 119 141 [.t 117, .t 118],
oM 12 119]))
(.seq
(.seq
(.reg [oM 120 12,
oB 121 .geq (.t 120) (cI 0)])
(.cond (.t 121)
(.seq
(.keep [8, 12]
(.reg [oM 122 12,
oM 123 8,
oB 124 .add (.t 122) (.t 123),
oM 4 124]))
.ret)
.skip))
(.seq
(.keep []
(.reg [oD 4 (.mov (cI (-1)))]))
.ret)))
.skip))))))))))
(.seq
(.keep []
(.reg [oD 4 (.mov (cI (-1)))]))
.ret))))))))
.skip)))))))))))
(.seq
(.keep [0, 1, 5]
(.reg [oM 125 1,
oD 126 (.indexSl 1 (.t 125) (cI 0)),
oL 127 126,
oM 13 127]))
(.seq
(.reg [oM 128 1,
oD 129 (.indexSl 1 (.t 128) (cI 1)),
oL 130 129,
oM 14 130])
(.seq
(.keep [0, 1, 5, 13, 14]
(.reg [oD 15 (.mov (cI 0))]))
(.seq
(.reg [oD 16 (.mov (cI 0))])
(.seq
(.keep [0, 1, 5, 13, 14, 15, 16]
(.reg [oM 131 0,
oE 132 131,
oM 133 5,
oB 134 .sub (.t 132) (.t 133),
oB 135 .add (.t 134) (cI 1),
oM 17 135]))
(.seq
(.block 3
(.loop
(.seq
(.seq
(.keep [0, 1, 5, 13, 14, 15, 16, 17]
(.reg [oM 136 15,
oM 137 17,
oB 138 .lss (.t 136) (.t 137)]))
(.cond (.t 138)
.skip
(.exit 3)))
(.block 4
(.seq
(.seq
(.keep [0, 1, 5, 13, 14, 15, 16, 17]
(.reg [oM 139 0,
oM 140 15,
oI 141 1 139 140,
oL 142 141,
oM 143 13,
oB 144 .neq (.t 142) (.t 143)]))
(.cond (.t 144)
(.seq
(.keep [0, 1, 5, 13, 14, 15, 16, 17]
(.reg [oM 145 0,
oM 146 15,
oB 147 .add (.t 146) (cI 1),
oM 148 17,
oD 149 (.slice 1 (.t 145) (some (.t 147)) (some (.t 148)) none),
oM 150 13,
oC 151 140 [.t 149, .t 150],
oM 18 151]))
(.seq
(.seq
(.keep [0, 1, 5, 13, 14, 15, 16, 17, 18]
(.reg [oM 152 18,
oB 153 .lss (.t 152) (cI 0)]))
(.cond (.t 153)
(.exit 3)
.skip))
(.keep [0, 1, 5, 13, 14, 15, 16, 17, 18]
(.reg [oM 154 15,
oM 155 18,
oB 156 .add (.t 155) (cI 1),
oB 157 .add (.t 154) (.t 156),
oM 15 157]))))
.skip))
(.seq
(.seq
(.keep [0, 1, 5, 13, 14, 15, 16, 17]
(.reg [oM 158 0,
oM 159 15,
oB 160 .add (.t 159) (cI 1),
oI 161 1 158 160,
oL 162 161,
oM 163 14,
oB 164 .eql (.t 162) (.t 163),
oM 165 164,
oT 165 166 (.mov (.t 0)),
oT 165 167 (.mov (.t 15)),
oT 165 168 (.mov (.t 15)),
oT 165 169 (.mov (.t 5)),
oT 165 170 (.bin .add (.t 168) (.t 169)),
oT 165 171 (.slice 1 (.t 166) (some (.t 167)) (some (.t 170)) none),
oT 165 172 (.mov (.t 1)),
oT 165 173 (.call false (.f 53) [(.t 171), (.t 172)]),
oP 174 165 (.t 173) cF]))
(.cond (.t 174)
(.seq
(.keep [15]
(.reg [oM 175 15,
oM 4 175]))
.ret)
.skip))
(.seq
(.keep [0, 1, 5, 13, 14, 15, 16, 17]
(.reg [oM 176 15,
oB 177 .add (.t 176) (cI 1),
oM 15 177]))
(.seq
(.reg [oM 178 16,
oB 179 .add (.t 178) (cI 1),
oM 16 179])
(.seq
(.keep [0, 1, 5, 13, 14, 15, 16, 17]
(.reg [oM 180 16,
oM 181 15,
oB 182 .shr (.t 181) (.c (.int .u64 4)),
oB 183 .add (cI 4) (.t 182),
oB 184 .geq (.t 180) (.t 183),
oM 185 184,
oT 185 186 (.mov (.t 15)),
oT 185 187 (.mov (.t 17)),
oT 185 188 (.bin .lss (.t 186) (.t 187)),
oP 189 185 (.t 188) cF]))
(.cond (.t 189)
(.seq
(.keep [0, 1, 15]
(.reg [oM 190 0,
oM 191 15,
oD 192 (.slice 1 (.t 190) (some (.t 191)) none none),
oM 193 1,
oC 194 143 [.t 192, .t 193],
oM 19 194]))
(.seq
(.seq
(.reg [oM 195 19,
oB 196 .lss (.t 195) (cI 0)])
(.cond (.t 196)
(.seq
(.keep []
(.reg [oD 4 (.mov (cI (-1)))]))
.ret)
.skip))
(.seq
(.keep [15, 19]
(.reg [oM 197 15,
oM 198 19,
oB 199 .add (.t 197) (.t 198),
oM 4 199]))
.ret)))
.skip))))))))))
(.seq
(.keep []
(.reg [oD 4 (.mov (cI (-1)))]))
.ret))))))))))
def rd_bytes_Index : List RD := [.tmp 4 true none]
theorem ok_bytes_Index : fnOk Tryz.prog Tryz.f118 ir_bytes_Index rd_bytes_Index = true := by kernel_rfl
def S_bytes_Index : List AV → List Obj → Option (Prop × AV)
  | [.imm (.int .u8) s, .imm (.int .u8) t], [] => some ((t.length = 1, .int .i64 (idxA (t.getD 0 0) s 0)))
  | _, _ => none
theorem snd_bytes_Index : SoundS Tryz.prog 118 (RoF S_bytes_Index).sum := by
  refine ro_fn Tryz.func118 ok_bytes_Index (env_cons (s := RoF S_bytes_IndexByte) snd_bytes_IndexByte (env_nil _)) fun args objs p v e => ?_
  unfold S_bytes_Index at e
  split at e
  · rename_i s t
    cases e
    refine ⟨rfl, fun hw ho hp => ?_⟩
    change List Int at s
    change List Int at t
    have hi : ((0 : Int)).toNat = 0 := rfl
    repeat' (intro t ht; first | (cases t <;> first | (cases ht; done) | ((try simp only [bn_s] at ht); (try simp only [nd_s] at ht); (try (exfalso; first | contradiction | omega)))) | (refine castG_go ht ?_; clear ht) | (refine ht ?_ ?_ <;> clear ht) | (refine ht.1 ?_ ?_ <;> clear ht) | (refine ht ?_; clear ht))
    all_goals first
      | exact True.intro
      | exact ⟨rfl, rfl⟩
      | ((try simp only [nd_s, bn_s, mm_s] at *); omega)
      | trace_state
  · cases e
def ctB (s : List Int) (c : Int) : List Int := if 0 ≤ idxA c s 0 then s.take (idxA c s 0).toNat else s
def ctR (s : List Int) (c : Int) : List Int := if 0 ≤ idxA c s 0 then s.drop (idxA c s 0 + 1).toNat else []
def ctK (s : List Int) (c : Int) : Bool := decide (0 ≤ idxA c s 0)
def ir_bytes_Cut : IR :=
(.seq
(.keep [0, 1]
(.reg [oD 4 (.mov (.c (.imm (.int .u8) []))),
oD 5 (.mov (.c (.imm (.int .u8) []))),
oD 6 (.mov cF)]))
(.seq
(.seq
(.reg [oM 8 0,
oM 9 1,
oC 10 118 [.t 8, .t 9],
oM 7 10])
(.seq
(.keep [0, 1, 7]
(.reg [oM 11 7,
oB 12 .geq (.t 11) (cI 0)]))
(.cond (.t 12)
(.seq
(.keep [0, 1, 7]
(.regD [(oM 13 0, []),
(oM 14 7, [0]),
(oD 15 (.slice 1 (.t 13) none (some (.t 14)) none), []),
(oM 16 0, [0,0,0]),
(oM 17 7, [0,0,0,0]),
(oM 18 1, [0,0,0,0,0]),
(oE 19 18, [1,0,0,0,0]),
(oB 20 .add (.t 17) (.t 19), [3,0,0,0]),
(oD 21 (.slice 1 (.t 16) (some (.t 20)) none none), [5,0,0]),
(oM 4 15, [0,0,0,0,0,0]),
(oM 5 21, []),
(oD 6 (.mov cT), [])]))
.ret)
.skip)))
(.seq
(.keep [0]
(.reg [oM 22 0,
oM 4 22,
oD 5 (.mov (.c (.imm (.int .u8) []))),
oD 6 (.mov cF)]))
.ret)))
def rd_bytes_Cut : List RD := [.tmp 4 true (some (.int .u8)), .tmp 5 true (some (.int .u8)), .tmp 6 true none]
theorem ok_bytes_Cut : fnOk Tryz.prog Tryz.f80 ir_bytes_Cut rd_bytes_Cut = true := by kernel_rfl
def S_bytes_Cut : List AV → List Obj → Option (Prop × AV)
  | [.imm (.int .u8) s, .imm (.int .u8) t], [] => some ((t.length = 1, .tup [.imm (.int .u8) (ctB s (t.getD 0 0)), .imm (.int .u8) (ctR s (t.getD 0 0)), .bool (ctK s (t.getD 0 0))]))
  | _, _ => none
theorem snd_bytes_Cut : SoundS Tryz.prog 80 (RoF S_bytes_Cut).sum := by
  refine ro_fn Tryz.func80 ok_bytes_Cut (env_cons (s := RoF S_bytes_Index) snd_bytes_Index (env_nil _)) fun args objs p v e => ?_
  unfold S_bytes_Cut at e
  split at e
  · rename_i s t
    cases e
    refine ⟨rfl, fun hw ho hp => ?_⟩
    change List Int at s
    change List Int at t
    have hl : s.length ≤ maxLen := (hw (.imm (.int .u8) s) (by simp)).2
    unfold maxLen at hl
    clear hw ho
    have h := idxA_le (c := t.getD 0 0) s 0 (Int.le_refl _)
    repeat' (intro t ht; first | (cases t <;> first | (cases ht; done) | ((try simp only [bn_s] at ht); (try simp only [nd_s] at ht); (try (exfalso; first | contradiction | omega)))) | (refine castG_go ht ?_; clear ht) | (refine ht ?_ ?_ <;> clear ht) | (refine ht.1 ?_ ?_ <;> clear ht) | (refine ht ?_; clear ht))
    all_goals first
      | exact True.intro
      | exact hp
      | ((try simp only [nd_s, bn_s, mm_s] at *); omega)
      | (refine ⟨?_, rfl⟩; unfold ctB ctR ctK; rw [if_pos (by assumption), if_pos (by assumption), decide_eq_true (by assumption), hp]; rfl)
      | (refine ⟨?_, rfl⟩; unfold ctB ctR ctK; rw [if_neg (by assumption), if_neg (by assumption), decide_eq_false (by assumption)]; done)
      | trace_state
  · cases e
end Go.Eng
namespace Go.Eng
open Go.Proofs
set_option linter.unusedVariables false
set_option linter.unusedSimpArgs false
set_option maxRecDepth 100000
set_option maxHeartbeats 1000000
theorem and_low {y : Int} (h0 : 0 ≤ y) (h : y < 4294967296) : bitop .and .u64 y 4294967295 = y := by
  obtain ⟨n, rfl⟩ := Int.eq_ofNat_of_zero_le h0
  have hn : n < 2 ^ 32 := by omega
  show IntKind.u64.wrap ((BitVec.ofInt 64 (n : Int) &&& BitVec.ofInt 64 4294967295).toNat : Int) = _
  have e1 : (BitVec.ofInt 64 (n : Int)).toNat = n := by
    rw [BitVec.ofInt_natCast, BitVec.toNat_ofNat]; exact Nat.mod_eq_of_lt (by omega)
  have e2 : (BitVec.ofInt 64 4294967295).toNat = 2 ^ 32 - 1 := by decide
  rw [BitVec.toNat_and, e1, e2, Nat.and_two_pow_sub_one_eq_mod, Nat.mod_eq_of_lt hn, wrap_id ⟨by rw [min_u64]; omega, by rw [max_u64]; omega⟩]
def ir_math_bits_Mul64 : IR :=
(.seq
(.keep [0, 1]
(.reg [oD 4 (.mov (.c (.int .u64 0))),
oD 5 (.mov (.c (.int .u64 0)))]))
(.seq
(.reg [oM 14 0,
oB 15 .and (.t 14) (.c (.int .u64 4294967295)),
oM 6 15])
(.seq
(.reg [oM 16 0,
oB 17 .shr (.t 16) (.c (.int .u64 32)),
oM 7 17])
(.seq
(.keep [0, 1, 6, 7]
(.reg [oM 18 1,
oB 19 .and (.t 18) (.c (.int .u64 4294967295)),
oM 8 19]))
(.seq
(.reg [oM 20 1,
oB 21 .shr (.t 20) (.c (.int .u64 32)),
oM 9 21])
(.seq
(.reg [oM 22 6,
oM 23 8,
oB 24 .mul (.t 22) (.t 23),
oM 10 24])
(.seq
(.keep [0, 1, 6, 7, 8, 9, 10]
(.reg [oM 25 7,
oM 26 8,
oB 27 .mul (.t 25) (.t 26),
oM 28 10,
oB 29 .shr (.t 28) (.c (.int .u64 32)),
oB 30 .add (.t 27) (.t 29),
oM 11 30]))
(.seq
(.keep [0, 1, 6, 7, 9, 11]
(.reg [oM 31 11,
oB 32 .and (.t 31) (.c (.int .u64 4294967295)),
oM 12 32]))
(.seq
(.reg [oM 33 11,
oB 34 .shr (.t 33) (.c (.int .u64 32)),
oM 13 34])
(.seq
(.keep [0, 1, 6, 7, 9, 12, 13]
(.reg [oM 35 12,
oM 36 6,
oM 37 9,
oB 38 .mul (.t 36) (.t 37),
oB 39 .add (.t 35) (.t 38),
oM 12 39]))
(.seq
(.keep [0, 1, 7, 9, 12, 13]
(.reg [oM 40 7,
oM 41 9,
oB 42 .mul (.t 40) (.t 41),
oM 43 13,
oB 44 .add (.t 42) (.t 43),
oM 45 12,
oB 46 .shr (.t 45) (.c (.int .u64 32)),
oB 47 .add (.t 44) (.t 46),
oM 4 47]))
(.seq
(.keep [0, 1, 4]
(.reg [oM 48 0,
oM 49 1,
oB 50 .mul (.t 48) (.t 49),
oM 5 50]))
.ret))))))))))))
def rd_math_bits_Mul64 : List RD := [.tmp 4 true none, .tmp 5 true none]
theorem ok_math_bits_Mul64 : fnOk Tryz.prog Tryz.f149 ir_math_bits_Mul64 rd_math_bits_Mul64 = true := by kernel_rfl
def S_math_bits_Mul64 : List AV → List Obj → Option (Prop × AV)
  | [.int .u64 x, .int .u64 y], [] => some ((x = 1 ∧ 0 ≤ y ∧ y < 4294967296, .tup [.int .u64 0, .int .u64 y]))
  | _, _ => none
theorem snd_math_bits_Mul64 : SoundS Tryz.prog 149 (RoF S_math_bits_Mul64).sum := by
  refine ro_fn Tryz.func149 ok_math_bits_Mul64 (env_nil _) fun args objs p v e => ?_
  unfold S_math_bits_Mul64 at e
  split at e
  · rename_i x y
    cases e
    refine ⟨rfl, fun hw ho hp => ?_⟩
    obtain ⟨rfl, h0, h1⟩ := hp
    have ha := and_low h0 h1
    have hb : bitop .and .u64 1 4294967295 = 1 := by decide
    have hc : bitop .and .u64 0 4294967295 = 0 := by decide
    have hd : (1 : Int).fdiv (2 ^ min (Int.toNat 32) IntKind.u64.bits) = 0 := by decide
    have he : y.fdiv (2 ^ min (Int.toNat 32) IntKind.u64.bits) = 0 := by
      show y.fdiv (2 ^ 32) = 0
      rw [Int.fdiv_eq_ediv_of_nonneg _ (by decide)]; exact Int.ediv_eq_zero_of_lt h0 h1
    have hf : (0 : Int).fdiv (2 ^ min (Int.toNat 32) IntKind.u64.bits) = 0 := by decide
    repeat' (intro t ht; first | (cases t <;> first | (cases ht; done) | ((try simp only [bn_s] at ht); (try simp only [nd_s] at ht))) | (refine castG_go ht ?_; clear ht) | (refine ht ?_ ?_ <;> clear ht) | (refine ht.1 ?_ ?_ <;> clear ht) | (refine ht ?_; clear ht))
    all_goals (try simp only [ha, hb, hc, hd, he, hf, Int.one_mul, Int.zero_mul, Int.mul_zero, Int.add_zero, Int.zero_add])
    all_goals first
      | exact True.intro
      | exact ⟨True.intro, True.intro⟩
      | exact ⟨rfl, rfl⟩
      | ((try simp only [nd_s, bn_s, mm_s] at *); omega)
      | trace_state
  · cases e
def ir_math_bits_Mul : IR :=
(.seq
(.keep [0, 1]
(.reg [oD 4 (.mov (.c (.int .u64 0))),
oD 5 (.mov (.c (.int .u64 0)))]))
(.seq
(.cond (.c (.kb false))
(.seq
(.keep [0, 1]
(.reg [oM 11 0,
oD 12 (.conv .u32 (.t 11)),
oM 13 1,
oD 14 (.conv .u32 (.t 13)),
oC 15 148 [.t 12, .t 14],
oM 10 15,
oX 16 10 0,
oX 17 10 1,
oM 6 16,
oM 7 17]))
(.seq
(.keep [6, 7]
(.reg [oM 18 6,
oD 19 (.conv .u64 (.t 18)),
oM 20 7,
oD 21 (.conv .u64 (.t 20)),
oM 4 19,
oM 5 21]))
.ret))
.skip)
(.seq
(.keep [0, 1]
(.reg [oM 23 0,
oM 24 1,
oC 25 149 [.t 23, .t 24],
oM 22 25,
oX 26 22 0,
oX 27 22 1,
oM 8 26,
oM 9 27]))
(.seq
(.keep [8, 9]
(.reg [oM 28 8,
oM 29 9,
oM 4 28,
oM 5 29]))
.ret))))
def rd_math_bits_Mul : List RD := [.tmp 4 true none, .tmp 5 true none]
theorem ok_math_bits_Mul : fnOk Tryz.prog Tryz.f129 ir_math_bits_Mul rd_math_bits_Mul = true := by kernel_rfl
def S_math_bits_Mul : List AV → List Obj → Option (Prop × AV)
  | [.int .u64 x, .int .u64 y], [] => some ((x = 1 ∧ 0 ≤ y ∧ y < 4294967296, .tup [.int .u64 0, .int .u64 y]))
  | _, _ => none
theorem snd_math_bits_Mul : SoundS Tryz.prog 129 (RoF S_math_bits_Mul).sum := by
  refine ro_fn Tryz.func129 ok_math_bits_Mul (env_cons (s := RoF S_math_bits_Mul64) snd_math_bits_Mul64 (env_nil _)) fun args objs p v e => ?_
  unfold S_math_bits_Mul at e
  split at e
  · rename_i x y
    cases e
    refine ⟨rfl, fun hw ho hp => ?_⟩
    repeat' (intro t ht; first | (cases t <;> first | (cases ht; done) | ((try simp only [bn_s] at ht); (try simp only [nd_s] at ht); (try (exfalso; first | contradiction | omega)))) | (refine castG_go ht ?_; clear ht) | (refine ht ?_ ?_ <;> clear ht) | (refine ht.1 ?_ ?_ <;> clear ht) | (refine ht ?_; clear ht))
    all_goals first
      | exact True.intro
      | exact hp
      | exact ⟨rfl, rfl⟩
      | trace_state
  · cases e
theorem rep_step {a : Int} {N k : Nat} (h1 : 1 ≤ k) (h2 : k ≤ N) : (List.replicate k a ++ List.replicate (N - k) (0 : Int)).take k ++ (List.replicate k a).take (N - k) ++ (List.replicate k a ++ List.replicate (N - k) (0 : Int)).drop (k + min k (N - k)) = List.replicate (k + min k (N - k)) a ++ List.replicate (N - (k + min k (N - k))) 0 := by
  have e1 : (List.replicate k a ++ List.replicate (N - k) (0 : Int)).take k = List.replicate k a := List.take_left' (by simp)
  have e2 : (List.replicate k a).take (N - k) = List.replicate (min k (N - k)) a := by rw [List.take_replicate, Nat.min_comm]
  have e3 : (List.replicate k a ++ List.replicate (N - k) (0 : Int)).drop (k + min k (N - k)) = List.replicate (N - (k + min k (N - k))) 0 := by
    rw [List.drop_append, List.drop_of_length_le (by simp), List.nil_append, List.length_replicate, List.drop_replicate]; congr 1; omega
  rw [e1, e2, e3, List.replicate_append_replicate]
def ir_slices_Repeat_int_int : IR :=
(.seq
(.keep [0, 1]
(.reg [oD 4 (.mov (.c (.imm (.int .i64) [])))]))
(.seq
(.seq
(.reg [oM 9 1,
oB 10 .lss (.t 9) (cI 0)])
(.cond (.t 10)
(.reg [oD 11 (.bad),
oN (.bad)])
.skip))
(.seq
(.keep [0, 1]
(.reg [oM 13 0,
oE 14 13,
oD 15 (.conv .u64 (.t 14)),
oM 16 1,
oD 17 (.conv .u64 (.t 16)),
oC 18 129 [.t 15, .t 17],
oM 12 18,
oX 19 12 0,
oX 20 12 1,
oM 5 19,
oM 6 20]))
(.seq
(.seq
(.keep [0, 5, 6]
(.reg [oM 21 5,
oB 22 .gtr (.t 21) (.c (.int .u64 0)),
oM 23 22,
oF 23 24 (.mov (.t 6)),
oF 23 25 (.bin .gtr (.t 24) (.c (.int .u64 9223372036854775807))),
oP 26 23 cT (.t 25)]))
(.cond (.t 26)
(.keep [0, 6]
(.reg [oD 27 (.bad),
oN (.bad)]))
.skip))
(.seq
(.keep [0, 6]
(.reg [oM 28 6,
oD 29 (.conv .i64 (.t 28)),
oD 30 (.mkrow (.int .i64) 8 (0 : Int) (.t 29) (.t 29)),
oM 7 30]))
(.seq
(.reg [oM 31 7,
oM 32 0,
oD 33 (.copy (.int .i64) (.t 31) (.t 32)),
oM 8 33])
(.seq
(.block 0
(.loop
(.seq
(.seq
(.keep [7, 8]
(.reg [oM 34 8,
oM 35 7,
oE 36 35,
oB 37 .lss (.t 34) (.t 36)]))
(.cond (.t 37)
.skip
(.exit 0)))
(.block 1
(.keep [7, 8]
(.regD [(oM 38 8, []),
(oM 39 7, [0]),
(oM 40 8, [0,0]),
(oD 41 (.slice 1 (.t 39) (some (.t 40)) none none), [2]),
(oM 42 7, [0,0,0,0]),
(oM 43 8, [0,0,0,0,0]),
(oD 44 (.slice 1 (.t 42) none (some (.t 43)) none), [2,0,0,0]),
(oD 45 (.copy (.int .i64) (.t 41) (.t 44)), [6]),
(oB 46 .add (.t 38) (.t 45), []),
(oM 8 46, [])]))))))
(.seq
(.keep [7]
(.reg [oM 47 7,
oM 4 47]))
.ret))))))))
def rd_slices_Repeat_int_int : List RD := [.tmp 4 true (some (.int .i64))]
theorem ok_slices_Repeat_int_int : fnOk Tryz.prog Tryz.f91 ir_slices_Repeat_int_int rd_slices_Repeat_int_int = true := by kernel_rfl
def S_slices_Repeat_int_int : List AV → List Obj → Option (Prop × AV)
  | [.imm (.int .i64) x, .int .i64 n], [] => some ((x.length = 1 ∧ 1 ≤ n ∧ n ≤ 1000, .imm (.int .i64) (List.replicate n.toNat (x.getD 0 0))))
  | _, _ => none
theorem snd_slices_Repeat_int_int : SoundS Tryz.prog 91 (RoF S_slices_Repeat_int_int).sum := by
  refine ro_fn Tryz.func91 ok_slices_Repeat_int_int (env_cons (s := RoF S_math_bits_Mul) snd_math_bits_Mul (env_nil _)) fun args objs p v e => ?_
  unfold S_slices_Repeat_int_int at e
  split at e
  · rename_i x n
    cases e
    refine ⟨rfl, fun hw ho hp => ?_⟩
    change List Int at x
    obtain ⟨a, rfl⟩ : ∃ a, x = [a] := List.length_eq_one_iff.1 hp.1
    obtain ⟨k, rfl⟩ := Int.eq_ofNat_of_zero_le (show 0 ≤ n by omega)
    have hk : 1 ≤ k := by omega
    have q1 : min (0 + 1) k = 1 := by omega
    have q2 : List.take k [a] = [a] := List.take_of_length_le hk
    repeat' (intro t ht; first | (cases t <;> first | (cases ht; done) | ((try simp only [bn_s] at ht); (try simp only [nd_s] at ht); (try (exfalso; first | contradiction | omega)))) | (refine castG_go ht ?_; clear ht) | (refine ht ?_ ?_ <;> clear ht) | (refine ht.1 ?_ ?_ <;> clear ht) | (refine ht ?_; clear ht))
    all_goals first
      | exact True.intro
      | ((try simp only [nd_s, bn_s, mm_s] at *); omega)
      | (simp only [List.length_cons, List.length_nil]; (try simp only [nd_s, bn_s, mm_s] at *); omega)
      | (intro r h1 h2; clear h1; refine h2 ⟨[7, 8], Nat, (fun j => 1 ≤ j ∧ j ≤ k), fun j => [.own 0, .int .i64 j], fun j => [.row false (.int .i64) (List.replicate j a ++ List.replicate (k - j) 0)], fun j => k - j, ⟨1, ⟨by omega, by omega⟩, by simp only [cast_rfl, List.length_cons, List.length_nil, List.length_replicate, Int.toNat_natCast, q1]; rfl, by simp only [cast_rfl, List.length_cons, List.length_nil, List.length_replicate, Int.toNat_natCast, q2, List.drop_replicate]; rfl⟩, ?_⟩; clear h2)
      | trace_state
    rintro j ⟨hj1, hj2⟩
    have q3 : (List.replicate j a ++ List.replicate (k - j) (0 : Int)).length = k := by rw [List.length_append, List.length_replicate, List.length_replicate]; omega
    have q4 : (List.replicate j a ++ List.replicate (k - j) (0 : Int)).take j = List.replicate j a := List.take_left' (by simp)
    have q5 : ((k : Int) - (j : Int)).toNat = k - j := by omega
    have q6 := rep_step (a := a) hj1 hj2
    repeat' (intro t ht; first | (cases t <;> first | (cases ht; done) | ((try simp only [bn_s] at ht); (try simp only [nd_s] at ht); (try (exfalso; first | contradiction | omega)))) | (refine castG_go ht ?_; clear ht) | (refine ht ?_ ?_ <;> clear ht) | (refine ht.1 ?_ ?_ <;> clear ht) | (refine ht ?_; clear ht))
    all_goals (try simp only [cast_rfl, q3, q4, q5, Int.toNat_natCast, Int.toNat_zero, Int.sub_zero, List.drop_zero, Nat.zero_add, List.length_replicate])
    all_goals first
      | ((try simp only [nd_s, bn_s, mm_s] at *); omega)
      | (have e : j = k := by omega
         subst e
         refine ⟨?_, by first | rfl | exact True.intro⟩; rw [Nat.sub_self, List.replicate_zero, List.append_nil]; rfl)
      | (rw [q4] at q6
         refine ⟨j + min j (k - j), ⟨by omega, by omega⟩, by omega, ?_, ?_⟩
         · simp only [Int.natCast_add]; rfl
         · rw [← q6])
      | trace_state
  · cases e
end Go.Eng
namespace Go.Eng
open Go.Proofs
set_option linter.unusedVariables false
set_option linter.unusedSimpArgs false
set_option maxRecDepth 100000
set_option maxHeartbeats 1000000
def anW (k : Int) : List Int := if k = 2 then [8, 8, 4, -4] else if k = 3 then [1, -3, 4, 8, 8] else if k = 4 then [4, -4, 8, 8, 8, 8, 8, 8, 8, 8, 8, 8, 8, 8, 4, 4] else if k = 5 then [4, 4, 8, 8, 8, 4, 4] else if k = 8 then [4, 4, 4, 4, 4, 4, 4, 4, 4, 4] else if k = 11 then [4, 4, 4, 1, 1, -2] else []
def anM (k : Int) : Int := if k = 0 then 1 else if k = 2 then 1 else if k = 3 then 2 else if k = 4 then 2 else if k = 5 then 2 else if k = 8 then 1 else if k = 11 then 1 else -1
def asW (k : Int) : List Int := if k = 4 then [4, -4] else if k = 6 then [4, -4] else if k = 9 then [4, -4] else if k = 10 then [4, -4] else if k = 5 then [4, 4] else []
def asM (k : Int) : Int := if k = 0 then 0 else if k = 3 then 0 else if k = 7 then 0 else if k = 8 then 0 else if k = 11 then 0 else if k = 13 then 0 else if k = 4 then 1 else if k = 6 then 1 else if k = 9 then 1 else if k = 10 then 1 else if k = 5 then 1 else -1
def nzM (m : Int) : Int := if m = -1 then 0 else m
def tW (r : Bool) (k : Int) : List Int := if r = true then anW k else asW k
def tM (r : Bool) (k : Int) : Int := if r = true then anM k else asM k
def tX (r : Bool) (k : Int) : Bool := r && decide (k = 0)
def tK (r : Bool) (k : Int) : Bool := decide (0 ≤ tM r k)
def ir_tally_asked : IR :=
(.seq
(.keep [0]
(.reg [oD 2 (.box [.imm (.int .i64) [], .int .i64 0, .kb false]),
oD 3 (.mov cF)]))
(.seq
(.seq
(.reg [oM 4 0])
(.block 0
(.seq
(.block 4
(.seq
(.block 3
(.seq
(.block 2
(.block 1
(.seq
(.seq
(.seq
(.seq
(.reg [oB 6 .eql (.t 4) (cI 0),
oM 5 6])
(.cond (.t 5)
.skip
(.seq
(.reg [oB 7 .eql (.t 4) (cI 3),
oM 5 7])
(.cond (.t 5)
.skip
(.keep [2, 4]
(.reg [oB 8 .eql (.t 4) (cI 7),
oM 5 8]))))))
(.cond (.t 5)
(.exit 1)
.skip))
(.seq
(.seq
(.seq
(.keep [2, 4]
(.reg [oB 10 .eql (.t 4) (cI 8),
oM 9 10]))
(.cond (.t 9)
.skip
(.seq
(.reg [oB 11 .eql (.t 4) (cI 11),
oM 9 11])
(.cond (.t 9)
.skip
(.reg [oB 12 .eql (.t 4) (cI 13),
oM 9 12])))))
(.cond (.t 9)
(.exit 2)
.skip))
(.seq
(.seq
(.seq
(.keep [2, 4]
(.reg [oB 14 .eql (.t 4) (cI 4),
oM 13 14]))
(.cond (.t 13)
.skip
(.seq
(.reg [oB 15 .eql (.t 4) (cI 6),
oM 13 15])
(.cond (.t 13)
.skip
(.seq
(.reg [oB 16 .eql (.t 4) (cI 9),
oM 13 16])
(.cond (.t 13)
.skip
(.keep [2, 4]
(.reg [oB 17 .eql (.t 4) (cI 10),
oM 13 17]))))))))
(.cond (.t 13)
(.exit 3)
.skip))
(.seq
(.keep [2, 4]
(.reg [oB 19 .eql (.t 4) (cI 5),
oM 18 19]))
(.cond (.t 18)
(.exit 4)
.skip)))))
(.exit 0))))
(.seq
(.seq
(.keep [2]
(.reg [oD 20 (.build [.imm (.int .i64) [], .int .i64 0, .kb false] []),
oS 3 2 20,
oD 3 (.mov cT)]))
.ret)
(.exit 0))))
(.seq
(.seq
(.keep [2]
(.reg [oD 21 (.sliceAll (.int .i64) 2 [(0, 1, (cI 4)), (1, 1, (cI (-4)))]),
oD 22 (.build [.imm (.int .i64) [], .int .i64 0, .kb false] [(0, 1, (.t 21)), (1, 1, (cI 1))]),
oS 3 2 22,
oD 3 (.mov cT)]))
.ret)
(.exit 0))))
(.seq
(.seq
(.keep [2]
(.reg [oD 23 (.sliceAll (.int .i64) 2 [(0, 1, (cI 4)), (1, 1, (cI 4))]),
oD 24 (.build [.imm (.int .i64) [], .int .i64 0, .kb false] [(0, 1, (.t 23)), (1, 1, (cI 1))]),
oS 3 2 24,
oD 3 (.mov cT)]))
.ret)
(.exit 0)))))
(.seq
(.keep [2]
(.reg [oD 25 (.build [.imm (.int .i64) [], .int .i64 0, .kb false] []),
oS 3 2 25,
oD 3 (.mov cF)]))
.ret)))
def rd_tally_asked : List RD := [.cell 2 (some 3) true [], .tmp 3 true none]
theorem ok_tally_asked : fnOk Tryz.prog Tryz.f46 ir_tally_asked rd_tally_asked = true := by kernel_rfl
def S_tally_asked : List AV → List Obj → Option (Prop × AV)
  | [.int .i64 k], [] => some ((True, .tup [.agg [.imm (.int .i64) (asW k), .int .i64 (nzM (asM k)), .bool false], .bool (decide (0 ≤ asM k))]))
  | _, _ => none
theorem snd_tally_asked : SoundS Tryz.prog 46 (RoF S_tally_asked).sum := by
  refine ro_fn Tryz.func46 ok_tally_asked (env_nil _) fun args objs p v e => ?_
  unfold S_tally_asked at e
  split at e
  · rename_i k
    cases e
    refine ⟨rfl, fun hw ho hp => ?_⟩
    clear hw ho
    repeat' (intro t ht; first | (cases t <;> first | (cases ht; done) | ((try simp only [bn_s] at ht); (try simp only [nd_s] at ht); (try (exfalso; first | contradiction | omega)))) | (refine castG_go ht ?_; clear ht) | (refine ht ?_ ?_ <;> clear ht) | (refine ht.1 ?_ ?_ <;> clear ht) | (refine ht ?_; clear ht))
    all_goals first
      | exact True.intro
      | ((try simp only [nd_s, bn_s, mm_s] at *); omega)
      | (subst k; exact ⟨rfl, rfl⟩)
      | (refine ⟨?_, rfl⟩; simp [asW, nzM, asM, *]; done)
      | trace_state
  · cases e
def ir_r27_Of : IR :=
(.seq
(.keep [0, 1]
(.reg [oD 4 (.box [.imm (.int .i64) [], .int .i64 0, .kb false])]))
(.seq
(.seq
(.reg [oM 5 0])
(.cond (.t 5)
(.seq
(.seq
(.reg [oM 6 1])
(.block 0
(.seq
(.reg [oB 8 .eql (.t 6) (cI 0),
oM 7 8])
(.cond (.t 7)
(.seq
(.keep [4]
(.reg [oD 9 (.buildAll 3 [(0, 1, (.c (.imm (.int .i64) []))), (1, 1, (cI 1)), (2, 1, cT)]),
oS 3 4 9]))
.ret)
(.seq
(.keep [4, 6]
(.reg [oB 11 .eql (.t 6) (cI 2),
oM 10 11]))
(.cond (.t 10)
(.seq
(.reg [oD 12 (.sliceAll (.int .i64) 4 [(0, 1, (cI 8)), (1, 1, (cI 8)), (2, 1, (cI 4)), (3, 1, (cI (-4)))]),
oD 13 (.buildAll 3 [(0, 1, (.t 12)), (1, 1, (cI 1)), (2, 1, cF)]),
oS 3 4 13])
.ret)
(.seq
(.reg [oB 15 .eql (.t 6) (cI 3),
oM 14 15])
(.cond (.t 14)
(.seq
(.reg [oD 16 (.sliceAll (.int .i64) 5 [(0, 1, (cI 1)), (1, 1, (cI (-3))), (2, 1, (cI 4)), (3, 1, (cI 8)), (4, 1, (cI 8))]),
oD 17 (.buildAll 3 [(0, 1, (.t 16)), (1, 1, (cI 2)), (2, 1, cF)]),
oS 3 4 17])
.ret)
(.seq
(.reg [oB 19 .eql (.t 6) (cI 4),
oM 18 19])
(.cond (.t 18)
(.seq
(.keep [4]
(.reg [oD 20 (.sliceAll (.int .i64) 16 [(0, 1, (cI 4)), (1, 1, (cI (-4))), (2, 1, (cI 8)), (3, 1, (cI 8)), (4, 1, (cI 8)), (5, 1, (cI 8)), (6, 1, (cI 8)), (7, 1, (cI 8)), (8, 1, (cI 8)), (9, 1, (cI 8)), (10, 1, (cI 8)), (11, 1, (cI 8)), (12, 1, (cI 8)), (13, 1, (cI 8)), (14, 1, (cI 4)), (15, 1, (cI 4))]),
oD 21 (.buildAll 3 [(0, 1, (.t 20)), (1, 1, (cI 2)), (2, 1, cF)]),
oS 3 4 21]))
.ret)
(.seq
(.keep [4, 6]
(.reg [oB 23 .eql (.t 6) (cI 5),
oM 22 23]))
(.cond (.t 22)
(.seq
(.reg [oD 24 (.sliceAll (.int .i64) 7 [(0, 1, (cI 4)), (1, 1, (cI 4)), (2, 1, (cI 8)), (3, 1, (cI 8)), (4, 1, (cI 8)), (5, 1, (cI 4)), (6, 1, (cI 4))]),
oD 25 (.buildAll 3 [(0, 1, (.t 24)), (1, 1, (cI 2)), (2, 1, cF)]),
oS 3 4 25])
.ret)
(.seq
(.reg [oB 27 .eql (.t 6) (cI 8),
oM 26 27])
(.cond (.t 26)
(.seq
(.reg [oD 28 (.sliceAll (.int .i64) 10 [(0, 1, (cI 4)), (1, 1, (cI 4)), (2, 1, (cI 4)), (3, 1, (cI 4)), (4, 1, (cI 4)), (5, 1, (cI 4)), (6, 1, (cI 4)), (7, 1, (cI 4)), (8, 1, (cI 4)), (9, 1, (cI 4))]),
oD 29 (.buildAll 3 [(0, 1, (.t 28)), (1, 1, (cI 1)), (2, 1, cF)]),
oS 3 4 29])
.ret)
(.seq
(.reg [oB 31 .eql (.t 6) (cI 11),
oM 30 31])
(.cond (.t 30)
(.seq
(.keep [4]
(.reg [oD 32 (.sliceAll (.int .i64) 6 [(0, 1, (cI 4)), (1, 1, (cI 4)), (2, 1, (cI 4)), (3, 1, (cI 1)), (4, 1, (cI 1)), (5, 1, (cI (-2)))]),
oD 33 (.buildAll 3 [(0, 1, (.t 32)), (1, 1, (cI 1)), (2, 1, cF)]),
oS 3 4 33]))
.ret)
.skip))))))))))))))))
(.seq
(.keep [4]
(.reg [oD 34 (.buildAll 3 [(0, 1, (.c (.imm (.int .i64) []))), (1, 1, (cI (-1))), (2, 1, cF)]),
oS 3 4 34]))
.ret))
.skip))
(.seq
(.seq
(.reg [oM 35 1])
(.block 1
(.seq
(.seq
(.reg [oB 37 .eql (.t 35) (cI 0),
oM 36 37])
(.cond (.t 36)
.skip
(.seq
(.keep [4, 35]
(.reg [oB 38 .eql (.t 35) (cI 3),
oM 36 38]))
(.cond (.t 36)
.skip
(.seq
(.reg [oB 39 .eql (.t 35) (cI 7),
oM 36 39])
(.cond (.t 36)
.skip
(.seq
(.reg [oB 40 .eql (.t 35) (cI 8),
oM 36 40])
(.cond (.t 36)
.skip
(.seq
(.keep [4, 35]
(.reg [oB 41 .eql (.t 35) (cI 11),
oM 36 41]))
(.cond (.t 36)
.skip
(.reg [oB 42 .eql (.t 35) (cI 13),
oM 36 42])))))))))))
(.cond (.t 36)
(.seq
(.keep [4]
(.reg [oD 43 (.buildAll 3 [(0, 1, (.c (.imm (.int .i64) []))), (1, 1, (cI 0)), (2, 1, cF)]),
oS 3 4 43]))
.ret)
(.seq
(.seq
(.keep [4, 35]
(.reg [oB 45 .eql (.t 35) (cI 4),
oM 44 45]))
(.cond (.t 44)
.skip
(.seq
(.reg [oB 46 .eql (.t 35) (cI 6),
oM 44 46])
(.cond (.t 44)
.skip
(.seq
(.reg [oB 47 .eql (.t 35) (cI 9),
oM 44 47])
(.cond (.t 44)
.skip
(.keep [4, 35]
(.reg [oB 48 .eql (.t 35) (cI 10),
oM 44 48]))))))))
(.cond (.t 44)
(.seq
(.keep [4]
(.reg [oD 49 (.sliceAll (.int .i64) 2 [(0, 1, (cI 4)), (1, 1, (cI (-4)))]),
oD 50 (.buildAll 3 [(0, 1, (.t 49)), (1, 1, (cI 1)), (2, 1, cF)]),
oS 3 4 50]))
.ret)
(.seq
(.keep [4, 35]
(.reg [oB 52 .eql (.t 35) (cI 5),
oM 51 52]))
(.cond (.t 51)
(.seq
(.reg [oD 53 (.sliceAll (.int .i64) 2 [(0, 1, (cI 4)), (1, 1, (cI 4))]),
oD 54 (.buildAll 3 [(0, 1, (.t 53)), (1, 1, (cI 1)), (2, 1, cF)]),
oS 3 4 54])
.ret)
.skip))))))))
(.seq
(.keep [4]
(.reg [oD 55 (.buildAll 3 [(0, 1, (.c (.imm (.int .i64) []))), (1, 1, (cI (-1))), (2, 1, cF)]),
oS 3 4 55]))
.ret))))
def rd_r27_Of : List RD := [.cell 4 (some 3) true []]
theorem ok_r27_Of : fnOk Tryz.prog Tryz.f23 ir_r27_Of rd_r27_Of = true := by kernel_rfl
def S_r27_Of : List AV → List Obj → Option (Prop × AV)
  | [.bool r, .int .i64 k], [] => some ((True, .agg [.imm (.int .i64) (tW r k), .int .i64 (tM r k), .bool (tX r k)]))
  | _, _ => none
theorem snd_r27_Of : SoundS Tryz.prog 23 (RoF S_r27_Of).sum := by
  refine ro_fn Tryz.func23 ok_r27_Of (env_nil _) fun args objs p v e => ?_
  unfold S_r27_Of at e
  split at e
  · rename_i r k
    cases e
    refine ⟨rfl, fun hw ho hp => ?_⟩
    clear hw ho
    cases r
    all_goals repeat' (intro t ht; first | (cases t <;> first | (cases ht; done) | ((try simp only [bn_s] at ht); (try simp only [nd_s] at ht); (try (exfalso; first | contradiction | omega)))) | (refine castG_go ht ?_; clear ht) | (refine ht ?_ ?_ <;> clear ht) | (refine ht.1 ?_ ?_ <;> clear ht) | (refine ht ?_; clear ht))
    all_goals first
      | exact True.intro
      | ((try simp only [nd_s, bn_s, mm_s] at *); omega)
      | (subst k; exact ⟨rfl, rfl⟩)
      | (refine ⟨?_, rfl⟩; simp [tW, tM, tX, asW, asM, anW, anM, *]; done)
      | trace_state
  · cases e
def ir_r27_Has : IR :=
(.seq
(.keep [0, 1]
(.reg [oD 4 (.mov cF)]))
(.seq
(.keep [0, 1]
(.reg [oM 5 0,
oM 6 1,
oC 7 23 [.t 5, .t 6],
oD 8 (.field none 1 (.t 7)),
oB 9 .geq (.t 8) (cI 0),
oM 4 9]))
.ret))
def rd_r27_Has : List RD := [.tmp 4 true none]
theorem ok_r27_Has : fnOk Tryz.prog Tryz.f11 ir_r27_Has rd_r27_Has = true := by kernel_rfl
def S_r27_Has : List AV → List Obj → Option (Prop × AV)
  | [.bool r, .int .i64 k], [] => some ((True, .bool (tK r k)))
  | _, _ => none
theorem snd_r27_Has : SoundS Tryz.prog 11 (RoF S_r27_Has).sum := by
  refine ro_fn Tryz.func11 ok_r27_Has (env_cons (s := RoF S_r27_Of) snd_r27_Of (env_nil _)) fun args objs p v e => ?_
  unfold S_r27_Has at e
  split at e
  · rename_i r k
    cases e
    refine ⟨rfl, fun hw ho hp => ?_⟩
    clear hw ho
    repeat' (intro t ht; first | (cases t <;> first | (cases ht; done) | ((try simp only [bn_s] at ht); (try simp only [nd_s] at ht); (try (exfalso; first | contradiction | omega)))) | (refine castG_go ht ?_; clear ht) | (refine ht ?_ ?_ <;> clear ht) | (refine ht.1 ?_ ?_ <;> clear ht) | (refine ht ?_; clear ht))
    all_goals first
      | exact True.intro
      | exact ⟨rfl, rfl⟩
      | trace_state
  · cases e
def ir_tally_sizes : IR :=
(.seq
(.keep []
(.reg [oD 0 (.box [.int .i64 0, .int .i64 0, .int .i64 0, .int .i64 0, .int .i64 0])]))
(.seq
(.reg [oD 1 (.buildAll 5 [(0, 1, (cI 256)), (1, 1, (cI 256)), (2, 1, (cI 256)), (3, 1, (cI 32)), (4, 1, (cI 256))]),
oS 5 0 1])
.ret))
def rd_tally_sizes : List RD := [.cell 0 (some 5) true []]
theorem ok_tally_sizes : fnOk Tryz.prog Tryz.f48 ir_tally_sizes rd_tally_sizes = true := by kernel_rfl
def S_tally_sizes : List AV → List Obj → Option (Prop × AV)
  | [], [] => some ((True, .agg [.int .i64 256, .int .i64 256, .int .i64 256, .int .i64 32, .int .i64 256]))
  | _, _ => none
theorem snd_tally_sizes : SoundS Tryz.prog 48 (RoF S_tally_sizes).sum := by
  refine ro_fn Tryz.func48 ok_tally_sizes (env_nil _) fun args objs p v e => ?_
  unfold S_tally_sizes at e
  split at e
  · cases e
    refine ⟨rfl, fun hw ho hp => ?_⟩
    repeat' (intro t ht; first | (cases t <;> first | (cases ht; done) | ((try simp only [bn_s] at ht); (try simp only [nd_s] at ht); (try (exfalso; first | contradiction | omega)))) | (refine castG_go ht ?_; clear ht) | (refine ht ?_ ?_ <;> clear ht) | (refine ht.1 ?_ ?_ <;> clear ht) | (refine ht ?_; clear ht))
    all_goals first
      | exact True.intro
      | exact ⟨rfl, rfl⟩
      | trace_state
  · cases e
def zs : List Int := [256, 256, 256, 32, 256]
def ir_r27_sizes : IR :=
(.seq
(.keep []
(.reg [oD 0 (.mov (.c (.imm (.int .i64) [])))]))
(.seq
(.reg [oD 1 (.sliceAll (.int .i64) 5 [(0, 1, (cI 256)), (1, 1, (cI 256)), (2, 1, (cI 256)), (3, 1, (cI 32)), (4, 1, (cI 256))]),
oM 0 1])
.ret))
def rd_r27_sizes : List RD := [.tmp 0 true (some (.int .i64))]
theorem ok_r27_sizes : fnOk Tryz.prog Tryz.f26 ir_r27_sizes rd_r27_sizes = true := by kernel_rfl
def S_r27_sizes : List AV → List Obj → Option (Prop × AV)
  | [], [] => some ((True, .imm (.int .i64) zs))
  | _, _ => none
theorem snd_r27_sizes : SoundS Tryz.prog 26 (RoF S_r27_sizes).sum := by
  refine ro_fn Tryz.func26 ok_r27_sizes (env_nil _) fun args objs p v e => ?_
  unfold S_r27_sizes at e
  split at e
  · cases e
    refine ⟨rfl, fun hw ho hp => ?_⟩
    repeat' (intro t ht; first | (cases t <;> first | (cases ht; done) | ((try simp only [bn_s] at ht); (try simp only [nd_s] at ht); (try (exfalso; first | contradiction | omega)))) | (refine castG_go ht ?_; clear ht) | (refine ht ?_ ?_ <;> clear ht) | (refine ht.1 ?_ ?_ <;> clear ht) | (refine ht ?_; clear ht))
    all_goals first
      | exact True.intro
      | (simp; done)
      | exact ⟨rfl, rfl⟩
      | trace_state
  · cases e
def ir_tally_shape_size : IR :=
(.seq
(.keep [0]
(.reg [oD 1 (.boxv (.t 0)),
oD 2 (.mov (cI 0))]))
(.seq
(.seq
(.reg [oA 5 2 1,
oL 6 5,
oD 7 (.un .not (.t 6))])
(.cond (.t 7)
(.seq
(.reg [oA 8 0 1,
oL 9 8,
oC 10 77 [.t 9],
oM 2 10])
.ret)
.skip))
(.seq
(.seq
(.keep [2]
(.reg [oC 11 48 [],
oD 12 (.mov (cI 0))]))
(.block 0
(.loop
(.seq
(.keep [2, 11, 12]
(.reg [oB 13 .lss (.t 12) (cI 5)]))
(.seq
(.cond (.t 13)
.skip
(.exit 0))
(.seq
(.block 1
(.seq
(.reg [oD 14 (.pickI .i64 5 (.t 11) (.t 12)),
oM 4 14])
(.reg [oM 15 2,
oM 16 4,
oB 17 .add (.t 15) (.t 16),
oM 2 17])))
(.keep [2, 11, 12]
(.reg [oB 18 .add (.t 12) (cI 1),
oM 12 18]))))))))
(.seq
(.keep [2]
(.reg [oM 19 2,
oM 2 19]))
.ret))))
def rd_tally_shape_size : List RD := [.tmp 2 true none]
theorem ok_tally_shape_size : fnOk Tryz.prog Tryz.f28 ir_tally_shape_size rd_tally_shape_size = true := by kernel_rfl
def S_tally_shape_size : List AV → List Obj → Option (Prop × AV)
  | [.agg [.imm (.int .i64) w, .int .i64 m, .bool x]], [] => some ((True, .int .i64 (if x = true then 1056 else sizeW w)))
  | _, _ => none
theorem snd_tally_shape_size : SoundS Tryz.prog 28 (RoF S_tally_shape_size).sum := by
  refine ro_fn Tryz.func28 ok_tally_shape_size (env_cons (s := RoF S_row_Size) snd_row_Size (env_cons (s := RoF S_tally_sizes) snd_tally_sizes (env_nil _))) fun args objs p v e => ?_
  unfold S_tally_shape_size at e
  split at e
  · rename_i w m x
    cases e
    refine ⟨rfl, fun hw ho hp => ?_⟩
    change List Int at w
    clear hw ho
    cases x
    · repeat' (intro t ht; first | (cases t <;> first | (cases ht; done) | ((try simp only [bn_s] at ht); (try simp only [nd_s] at ht); (try (exfalso; first | contradiction | omega)))) | (refine castG_go ht ?_; clear ht) | (refine ht ?_ ?_ <;> clear ht) | (refine ht.1 ?_ ?_ <;> clear ht) | (refine ht ?_; clear ht))
      all_goals first
        | exact True.intro
        | exact ⟨rfl, rfl⟩
        | trace_state
    · repeat' (intro t ht; first | (cases t <;> first | (cases ht; done) | ((try simp only [bn_s] at ht); (try simp only [nd_s] at ht); (try (exfalso; first | contradiction | omega)))) | (refine castG_go ht ?_; clear ht) | (refine ht ?_ ?_ <;> clear ht) | (refine ht.1 ?_ ?_ <;> clear ht) | (refine ht ?_; clear ht))
      all_goals first
        | exact True.intro
        | (intro r h1 h2; refine h1 ⟨6, ?_⟩; clear h1 h2)
        | trace_state
      repeat' (intro t ht; first | (cases t <;> first | (cases ht; done) | ((try simp only [bn_s] at ht); (try simp only [nd_s] at ht); (try (exfalso; first | contradiction | omega)))) | (refine castG_go ht ?_; clear ht) | (refine ht ?_ ?_ <;> clear ht) | (refine ht.1 ?_ ?_ <;> clear ht) | (refine ht ?_; clear ht))
      all_goals first
        | exact True.intro
        | exact ⟨rfl, rfl⟩
        | decide
        | ((try simp only [nd_s, bn_s, mm_s] at *); omega)
        | trace_state
  · cases e
def txF (n : Int) (s : List Int) : Bool := decide ((s.length : Int) < n) && s.all (okc 32)
def ir_tally_text : IR :=
(.seq
(.keep [0, 1]
(.reg [oD 4 (.mov cF)]))
(.seq
(.reg [oD 5 (.mov (.f 93))])
(.seq
(.keep [0, 1, 5]
(.reg [oM 6 0,
oD 7 (.slen (.t 6)),
oM 8 1,
oB 9 .lss (.t 7) (.t 8),
oM 10 9,
oT 10 11 (.mov (.t 0)),
oT 10 12 (.mov (.t 5)),
oT 10 13 (.call false (.f 94) [(.t 11), (.t 12)]),
oT 10 14 (.un .not (.t 13)),
oP 15 10 (.t 14) cF,
oM 4 15]))
.ret)))
def rd_tally_text : List RD := [.tmp 4 true none]
theorem ok_tally_text : fnOk Tryz.prog Tryz.f50 ir_tally_text rd_tally_text = true := by kernel_rfl
def S_tally_text : List AV → List Obj → Option (Prop × AV)
  | [.str s, .int .i64 n], [] => some ((True, .bool (txF n s)))
  | _, _ => none
theorem snd_tally_text : SoundS Tryz.prog 50 (RoF S_tally_text).sum := by
  refine ro_fn Tryz.func50 ok_tally_text (env_cons (s := RoF S_tally_text_1) snd_tally_text_1 (env_cons (s := RoF S_strings_ContainsFunc) snd_strings_ContainsFunc (env_nil _))) fun args objs p v e => ?_
  unfold S_tally_text at e
  split at e
  · rename_i s n
    cases e
    refine ⟨rfl, fun hw ho hp => ?_⟩
    clear hw ho
    repeat' (intro t ht; first | (cases t <;> first | (cases ht; done) | ((try simp only [bn_s] at ht); (try simp only [nd_s] at ht); (try (exfalso; first | contradiction | omega)))) | (refine castG_go ht ?_; clear ht) | (refine ht ?_ ?_ <;> clear ht) | (refine ht.1 ?_ ?_ <;> clear ht) | (refine ht ?_; clear ht))
    all_goals first
      | exact True.intro
      | (refine ⟨?_, rfl⟩; unfold txF; rw [decide_eq_false (by assumption)]; rfl)
      | (refine ⟨?_, rfl⟩; unfold txF; rw [decide_eq_true (by assumption), Bool.true_and]; simp; done)
      | (refine ⟨?_, rfl⟩; unfold txF; simp_all; done)
      | trace_state
  · cases e
def ir_r27_text : IR :=
(.seq
(.keep [0, 1]
(.reg [oD 4 (.mov cF)]))
(.seq
(.seq
(.reg [oD 5 (.mov (cI 0))])
(.block 0
(.loop
(.seq
(.seq
(.keep [0, 1, 5]
(.reg [oM 6 5,
oM 7 0,
oD 8 (.slen (.t 7)),
oB 9 .lss (.t 6) (.t 8)]))
(.cond (.t 9)
.skip
(.exit 0)))
(.seq
(.block 1
(.seq
(.keep [0, 1, 5]
(.reg [oM 12 0,
oM 13 5,
oD 14 (.sindex (.t 12) (.t 13)),
oB 15 .lss (.t 14) (.c (.int .u8 32)),
oM 16 15,
oF 16 17 (.mov (.t 0)),
oF 16 18 (.mov (.t 5)),
oF 16 19 (.sindex (.t 17) (.t 18)),
oF 16 20 (.bin .gtr (.t 19) (.c (.int .u8 126))),
oP 21 16 cT (.t 20)]))
(.cond (.t 21)
(.seq
(.keep []
(.reg [oD 4 (.mov cF)]))
.ret)
.skip)))
(.keep [0, 1, 5]
(.reg [oM 10 5,
oB 11 .add (.t 10) (cI 1),
oM 5 11])))))))
(.seq
(.keep [0, 1]
(.reg [oM 22 0,
oD 23 (.slen (.t 22)),
oM 24 1,
oB 25 .lss (.t 23) (.t 24),
oM 4 25]))
.ret)))
def rd_r27_text : List RD := [.tmp 4 true none]
theorem ok_r27_text : fnOk Tryz.prog Tryz.f25 ir_r27_text rd_r27_text = true := by kernel_rfl
def S_r27_text : List AV → List Obj → Option (Prop × AV)
  | [.str s, .int .i64 n], [] => some ((True, .bool (txF n s)))
  | _, _ => none
theorem snd_r27_text : SoundS Tryz.prog 25 (RoF S_r27_text).sum := by
  refine ro_fn Tryz.func25 ok_r27_text (env_nil _) fun args objs p v e => ?_
  unfold S_r27_text at e
  split at e
  · rename_i s n
    cases e
    refine ⟨rfl, fun hw ho hp => ?_⟩
    have hl : s.length ≤ maxLen := (hw (.str s) (by simp)).2
    unfold maxLen at hl
    clear hw ho
    repeat' (intro t ht; first | (cases t <;> first | (cases ht; done) | ((try simp only [bn_s] at ht); (try simp only [nd_s] at ht))) | (refine castG_go ht ?_; clear ht) | (refine ht ?_ ?_ <;> clear ht) | (refine ht.1 ?_ ?_ <;> clear ht) | (refine ht ?_; clear ht))
    all_goals first
      | (intro r h1 h2; clear h1; refine h2 ⟨[0, 1, 5], Nat, (fun i => i ≤ s.length ∧ (s.take i).all (okc 32) = true), fun i => [.str s, .int .i64 n, .int .i64 i], fun _ => [], fun i => s.length - i, ⟨0, ⟨Nat.zero_le _, rfl⟩, rfl, rfl⟩, ?_⟩; clear h2)
    rintro i ⟨hi, he⟩
    repeat' (intro t ht; first | (cases t <;> first | (cases ht; done) | ((try simp only [bn_s] at ht); (try simp only [nd_s] at ht); (try (exfalso; first | contradiction | omega)))) | (refine castG_go ht ?_; clear ht) | (refine ht ?_ ?_ <;> clear ht) | (refine ht.1 ?_ ?_ <;> clear ht) | (refine ht ?_; clear ht))
    all_goals first
      | ((try simp only [nd_s, bn_s, mm_s] at *); omega)
      | (have h := all_end (by omega) he
         refine ⟨?_, rfl⟩; unfold txF; rw [h, Bool.and_true]; done)
      | (have h : txF n s = false := by
           unfold txF; rw [all_no (d := 0) (i := i) (by omega) (okc_f.2 (by omega)), Bool.and_false]
         refine ⟨?_, rfl⟩; rw [h]; done)
      | exact ⟨i + 1, ⟨by omega, all_take (d := 0) (by omega) he (okc_t.2 (by omega))⟩, by dsimp only; omega, rfl, rfl⟩
      | trace_state
  · cases e
end Go.Eng
namespace Go.Eng
open Go.Proofs
set_option linter.unusedVariables false
set_option linter.unusedSimpArgs false
set_option maxRecDepth 100000
set_option maxHeartbeats 1000000
def ir_tally_answered : IR :=
(.seq
(.keep [0]
(.reg [oD 2 (.box [.imm (.int .i64) [], .int .i64 0, .kb false]),
oD 3 (.mov cF)]))
(.seq
(.seq
(.reg [oM 4 0])
(.block 0
(.seq
(.reg [oB 6 .eql (.t 4) (cI 0),
oM 5 6])
(.cond (.t 5)
(.seq
(.reg [oD 7 (.build [.imm (.int .i64) [], .int .i64 0, .kb false] [(1, 1, (cI 1)), (2, 1, cT)]),
oS 3 2 7,
oD 3 (.mov cT)])
.ret)
(.seq
(.reg [oB 9 .eql (.t 4) (cI 2),
oM 8 9])
(.cond (.t 8)
(.seq
(.keep [2]
(.reg [oD 10 (.sliceAll (.int .i64) 4 [(0, 1, (cI 8)), (1, 1, (cI 8)), (2, 1, (cI 4)), (3, 1, (cI (-4)))]),
oD 11 (.build [.imm (.int .i64) [], .int .i64 0, .kb false] [(0, 1, (.t 10)), (1, 1, (cI 1))]),
oS 3 2 11,
oD 3 (.mov cT)]))
.ret)
(.seq
(.keep [2, 4]
(.reg [oB 13 .eql (.t 4) (cI 3),
oM 12 13]))
(.cond (.t 12)
(.seq
(.reg [oD 14 (.sliceAll (.int .i64) 5 [(0, 1, (cI 1)), (1, 1, (cI (-3))), (2, 1, (cI 4)), (3, 1, (cI 8)), (4, 1, (cI 8))]),
oD 15 (.build [.imm (.int .i64) [], .int .i64 0, .kb false] [(0, 1, (.t 14)), (1, 1, (cI 2))]),
oS 3 2 15,
oD 3 (.mov cT)])
.ret)
(.seq
(.reg [oB 17 .eql (.t 4) (cI 4),
oM 16 17])
(.cond (.t 16)
(.seq
(.keep [2]
(.reg [oD 18 (.sliceOwn (.int .i64) 2 [(0, 1, (cI 4)), (1, 1, (cI (-4)))]),
oD 19 (.sliceAll (.int .i64) 1 [(0, 1, (cI 8))]),
oC 20 91 [.t 19, (cI 12)],
oD 21 (.append (.int .i64) 8 (.t 18) (.t 20)),
oD 22 (.sliceAll (.int .i64) 2 [(0, 1, (cI 4)), (1, 1, (cI 4))]),
oD 23 (.append (.int .i64) 8 (.t 21) (.t 22)),
oD 24 (.build [.imm (.int .i64) [], .int .i64 0, .kb false] [(0, 1, (.t 23)), (1, 1, (cI 2))]),
oS 3 2 24,
oD 3 (.mov cT)]))
.ret)
(.seq
(.reg [oB 26 .eql (.t 4) (cI 5),
oM 25 26])
(.cond (.t 25)
(.seq
(.keep [2]
(.reg [oD 27 (.sliceAll (.int .i64) 7 [(0, 1, (cI 4)), (1, 1, (cI 4)), (2, 1, (cI 8)), (3, 1, (cI 8)), (4, 1, (cI 8)), (5, 1, (cI 4)), (6, 1, (cI 4))]),
oD 28 (.build [.imm (.int .i64) [], .int .i64 0, .kb false] [(0, 1, (.t 27)), (1, 1, (cI 2))]),
oS 3 2 28,
oD 3 (.mov cT)]))
.ret)
(.seq
(.keep [2, 4]
(.reg [oB 30 .eql (.t 4) (cI 8),
oM 29 30]))
(.cond (.t 29)
(.seq
(.reg [oD 31 (.sliceAll (.int .i64) 1 [(0, 1, (cI 4))]),
oC 32 91 [.t 31, (cI 10)],
oD 33 (.build [.imm (.int .i64) [], .int .i64 0, .kb false] [(0, 1, (.t 32)), (1, 1, (cI 1))]),
oS 3 2 33,
oD 3 (.mov cT)])
.ret)
(.seq
(.reg [oB 35 .eql (.t 4) (cI 11),
oM 34 35])
(.cond (.t 34)
(.seq
(.reg [oD 36 (.sliceAll (.int .i64) 6 [(0, 1, (cI 4)), (1, 1, (cI 4)), (2, 1, (cI 4)), (3, 1, (cI 1)), (4, 1, (cI 1)), (5, 1, (cI (-2)))]),
oD 37 (.build [.imm (.int .i64) [], .int .i64 0, .kb false] [(0, 1, (.t 36)), (1, 1, (cI 1))]),
oS 3 2 37,
oD 3 (.mov cT)])
.ret)
.skip))))))))))))))))
(.seq
(.keep [2]
(.reg [oD 38 (.build [.imm (.int .i64) [], .int .i64 0, .kb false] []),
oS 3 2 38,
oD 3 (.mov cF)]))
.ret)))
def rd_tally_answered : List RD := [.cell 2 (some 3) true [], .tmp 3 true none]
theorem ok_tally_answered : fnOk Tryz.prog Tryz.f45 ir_tally_answered rd_tally_answered = true := by kernel_rfl
def S_tally_answered : List AV → List Obj → Option (Prop × AV)
  | [.int .i64 k], [] => some ((True, .tup [.agg [.imm (.int .i64) (anW k), .int .i64 (nzM (anM k)), .bool (decide (k = 0))], .bool (decide (0 ≤ anM k))]))
  | _, _ => none
theorem snd_tally_answered : SoundS Tryz.prog 45 (RoF S_tally_answered).sum := by
  refine ro_fn Tryz.func45 ok_tally_answered (env_cons (s := RoF S_slices_Repeat_int_int) snd_slices_Repeat_int_int (env_nil _)) fun args objs p v e => ?_
  unfold S_tally_answered at e
  split at e
  · rename_i k
    cases e
    refine ⟨rfl, fun hw ho hp => ?_⟩
    clear hw ho
    repeat' (intro t ht; first | (cases t <;> first | (cases ht; done) | ((try simp only [bn_s] at ht); (try simp only [nd_s] at ht); (try (exfalso; first | contradiction | omega)))) | (refine castG_go ht ?_; clear ht) | (refine ht ?_ ?_ <;> clear ht) | (refine ht.1 ?_ ?_ <;> clear ht) | (refine ht ?_; clear ht))
    all_goals first
      | exact True.intro
      | ((try simp only [nd_s, bn_s, mm_s] at *); omega)
      | (simp; done)
      | (subst k; exact ⟨rfl, rfl⟩)
      | (refine ⟨?_, rfl⟩; simp only [anW, nzM, anM, *, if_false, if_true, decide_true, decide_false]; done)
      | (refine ⟨?_, rfl⟩; simp [anW, nzM, anM, *]; done)
      | trace_state
  · cases e
def ir_tally_of : IR :=
(.seq
(.keep [0, 1]
(.reg [oD 4 (.box [.imm (.int .i64) [], .int .i64 0, .kb false]),
oD 5 (.mov cF)]))
(.seq
(.seq
(.reg [oM 6 0])
(.cond (.t 6)
(.seq
(.keep [1, 4]
(.reg [oM 7 1,
oD 8 (.call true (.f 45) [.t 7]),
oX 9 8 0,
oX 10 8 1,
oS 3 4 9,
oM 5 10]))
.ret)
.skip))
(.seq
(.keep [1, 4]
(.reg [oM 11 1,
oC 12 46 [.t 11],
oX 13 12 0,
oX 14 12 1,
oS 3 4 13,
oM 5 14]))
.ret)))
def rd_tally_of : List RD := [.cell 4 (some 3) true [], .tmp 5 true none]
theorem ok_tally_of : fnOk Tryz.prog Tryz.f18 ir_tally_of rd_tally_of = true := by kernel_rfl
def S_tally_of : List AV → List Obj → Option (Prop × AV)
  | [.bool r, .int .i64 k], [] => some ((True, .tup [.agg [.imm (.int .i64) (tW r k), .int .i64 (nzM (tM r k)), .bool (tX r k)], .bool (tK r k)]))
  | _, _ => none
theorem snd_tally_of : SoundS Tryz.prog 18 (RoF S_tally_of).sum := by
  refine ro_fn Tryz.func18 ok_tally_of (env_cons (s := RoF S_tally_answered) snd_tally_answered (env_cons (s := RoF S_tally_asked) snd_tally_asked (env_nil _))) fun args objs p v e => ?_
  unfold S_tally_of at e
  split at e
  · rename_i r k
    cases e
    refine ⟨rfl, fun hw ho hp => ?_⟩
    clear hw ho
    cases r
    all_goals repeat' (intro t ht; first | (cases t <;> first | (cases ht; done) | ((try simp only [bn_s] at ht); (try simp only [nd_s] at ht); (try (exfalso; first | contradiction | omega)))) | (refine castG_go ht ?_; clear ht) | (refine ht ?_ ?_ <;> clear ht) | (refine ht.1 ?_ ?_ <;> clear ht) | (refine ht ?_; clear ht))
    all_goals first
      | exact True.intro
      | exact ⟨rfl, rfl⟩
      | trace_state
  · cases e
def ir_tally_Has : IR :=
(.seq
(.keep [0, 1]
(.reg [oD 4 (.mov cF)]))
(.seq
(.keep [0, 1]
(.reg [oM 8 0,
oM 9 1,
oC 10 18 [.t 8, .t 9],
oM 7 10,
oX 11 7 0,
oX 12 7 1,
oD 5 (.box [.imm (.int .i64) [], .int .i64 0, .kb false]),
oS 3 5 11,
oM 6 12]))
(.seq
(.keep [6]
(.reg [oM 13 6,
oM 4 13]))
.ret)))
def rd_tally_Has : List RD := [.tmp 4 true none]
theorem ok_tally_Has : fnOk Tryz.prog Tryz.f10 ir_tally_Has rd_tally_Has = true := by kernel_rfl
def S_tally_Has : List AV → List Obj → Option (Prop × AV)
  | [.bool r, .int .i64 k], [] => some ((True, .bool (tK r k)))
  | _, _ => none
theorem snd_tally_Has : SoundS Tryz.prog 10 (RoF S_tally_Has).sum := by
  refine ro_fn Tryz.func10 ok_tally_Has (env_cons (s := RoF S_tally_of) snd_tally_of (env_nil _)) fun args objs p v e => ?_
  unfold S_tally_Has at e
  split at e
  · rename_i r k
    cases e
    refine ⟨rfl, fun hw ho hp => ?_⟩
    clear hw ho
    repeat' (intro t ht; first | (cases t <;> first | (cases ht; done) | ((try simp only [bn_s] at ht); (try simp only [nd_s] at ht); (try (exfalso; first | contradiction | omega)))) | (refine castG_go ht ?_; clear ht) | (refine ht ?_ ?_ <;> clear ht) | (refine ht.1 ?_ ?_ <;> clear ht) | (refine ht ?_; clear ht))
    all_goals first
      | exact True.intro
      | exact ⟨rfl, rfl⟩
      | trace_state
  · cases e
end Go.Eng
