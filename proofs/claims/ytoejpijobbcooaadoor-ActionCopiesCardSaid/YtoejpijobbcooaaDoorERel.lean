/- What an abstract state says of a frame and a memory of the model. No condition. -/
import Derived.Test.YtoejpijobbcooaaDoorECore
import Derived.RowKit3
import Derived.Laws.Sem
import Derived.Below
namespace Go.Eng
set_option linter.unusedVariables false
set_option linter.unusedSimpArgs false
open Go.RowKit
/-- Whose blocks the store's things are (a nil row has none), what room rows have, how long they are, how many cells an element has; which numbers are given out. -/
structure M where
  blk : Nat → Option Nat
  cap : Nat → Nat
  len : Nat → Nat
  sz : Nat → Nat
  used : Nat → Prop
def M.same (m m' : M) (i : Nat) : Prop := m'.blk i = m.blk i ∧ m'.cap i = m.cap i ∧ m'.len i = m.len i ∧ m'.sz i = m.sz i
theorem M.same_refl (m : M) (i : Nat) : m.same m i := ⟨rfl, rfl, rfl, rfl⟩
theorem M.same_trans {a b c : M} {i : Nat} (h : a.same b i) (k : b.same c i) : a.same c i := ⟨k.1.trans h.1, k.2.1.trans h.2.1, k.2.2.1.trans h.2.2.1, k.2.2.2.trans h.2.2.2⟩
def M.le (m m' : M) : Prop := (∀ i, m.used i → m'.used i) ∧ ∀ i, m.used i → m.same m' i
theorem M.le_refl (m : M) : m.le m := ⟨fun _ h => h, fun _ _ => m.same_refl _⟩
theorem M.le_trans {a b c : M} (h : a.le b) (k : b.le c) : a.le c := ⟨fun i hi => k.1 i (h.1 i hi), fun i hi => M.same_trans (h.2 i hi) (k.2 i (h.1 i hi))⟩
def inK (k : IntKind) (n : Int) : Prop := k.min ≤ n ∧ n ≤ k.max
def bytesI (s : ByteArray) : List Int := s.data.toList.map fun b => (b.toNat : Int)
/-- Cells hold data that is only read: it leads to blocks of I alone. -/
def RC (I : Nat → Prop) (w : World) : (t : Ty) → t.den → List Value → Prop
  | .int k, n, cs => cs = [.int k n] ∧ inK k n
  | .bool, b, cs => cs = [.bool b]
  | .str, l, cs => ∃ s : ByteArray, cs = [.string s] ∧ l = bytesI s ∧ s.size ≤ maxLen
  | .nil, _, cs => cs = []
  | .cons a b, x, cs => ∃ c1 c2, cs = c1 ++ c2 ∧ RC I w a x.1 c1 ∧ RC I w b x.2 c2
  | .sl t, l, cs => ∃ ao len cap, cs = [.slice ao len cap] ∧ len = l.length ∧ len ≤ cap ∧ cap ≤ maxLen ∧
      (0 < len → ∃ b o, ao = some ⟨b, o, none⟩ ∧ I b ∧ ∀ i (h : i < l.length), ∃ es, RC I w t l[i] es ∧ ∀ j (hj : j < es.length), w.cell? ⟨b, o + i * t.size + j, none⟩ = some es[j])
/-- A slice over data that is only read. -/
def RS (I : Nat → Prop) (w : World) (t : Ty) (l : List t.den) (ao : Option Addr) (len cap : Nat) : Prop :=
  len = l.length ∧ len ≤ cap ∧ cap ≤ maxLen ∧
      (0 < len → ∃ b o, ao = some ⟨b, o, none⟩ ∧ I b ∧ ∀ i (h : i < l.length), ∃ es, RC I w t l[i] es ∧ ∀ j (hj : j < es.length), w.cell? ⟨b, o + i * t.size + j, none⟩ = some es[j])
theorem RC_sl {I : Nat → Prop} {w : World} {t : Ty} {l : List t.den} {cs : List Value} : RC I w (.sl t) l cs ↔ ∃ ao len cap, cs = [.slice ao len cap] ∧ RS I w t l ao len cap := by
  simp only [RC, RS]
theorem RC_length {I : Nat → Prop} {w : World} : ∀ (t : Ty) (x : t.den) (cs : List Value), RC I w t x cs → cs.length = t.size
  | .int _, _, _, h => by simp only [RC] at h; simp [h.1, Ty.size]
  | .bool, _, _, h => by simp only [RC] at h; simp [h, Ty.size]
  | .str, _, _, h => by simp only [RC] at h; obtain ⟨s, h, _⟩ := h; simp [h, Ty.size]
  | .nil, _, _, h => by simp only [RC] at h; simp [h, Ty.size]
  | .cons a b, x, cs, h => by
    simp only [RC] at h
    obtain ⟨c1, c2, rfl, h1, h2⟩ := h
    simp [Ty.size, RC_length a _ _ h1, RC_length b _ _ h2]
  | .sl t, l, cs, h => by simp only [RC] at h; obtain ⟨_, _, _, h, _⟩ := h; simp [h, Ty.size]
/-- The blocks of I are as they were. -/
def Same (I : Nat → Prop) (w w' : World) : Prop := ∀ b, I b → w'.heap[b]? = w.heap[b]?
theorem Same.cell {I : Nat → Prop} {w w' : World} (h : Same I w w') {b o : Nat} (hb : I b) : w'.cell? ⟨b, o, none⟩ = w.cell? ⟨b, o, none⟩ := by
  simp only [World.cell?, h b hb]
theorem RC_mono {I I' : Nat → Prop} {w w' : World} (hI : ∀ b, I b → I' b) (hs : Same I w w') : ∀ (t : Ty) (x : t.den) (cs : List Value), RC I w t x cs → RC I' w' t x cs
  | .int _, _, _, h => by simpa only [RC] using h
  | .bool, _, _, h => by simpa only [RC] using h
  | .str, _, _, h => by simpa only [RC] using h
  | .nil, _, _, h => by simpa only [RC] using h
  | .cons a b, x, cs, h => by
    simp only [RC] at h ⊢
    obtain ⟨c1, c2, rfl, h1, h2⟩ := h
    exact ⟨c1, c2, rfl, RC_mono hI hs a _ _ h1, RC_mono hI hs b _ _ h2⟩
  | .sl t, l, cs, h => by
    simp only [RC] at h ⊢
    obtain ⟨ao, len, cap, rfl, h1, h2, h3, h4⟩ := h
    refine ⟨ao, len, cap, rfl, h1, h2, h3, fun h0 => ?_⟩
    obtain ⟨b, o, rfl, hb, h5⟩ := h4 h0
    refine ⟨b, o, rfl, hI b hb, fun i hi => ?_⟩
    obtain ⟨es, he, hc⟩ := h5 i hi
    exact ⟨es, RC_mono hI hs t _ _ he, fun j hj => by rw [hs.cell hb]; exact hc j hj⟩
/-- Data without slices within hangs on no block. -/
theorem RC_plain {I I' : Nat → Prop} {w w' : World} : ∀ (t : Ty) (x : t.den) (cs : List Value), t.plain = true → RC I w t x cs → RC I' w' t x cs
  | .int _, _, _, _, h => by simpa only [RC] using h
  | .bool, _, _, _, h => by simpa only [RC] using h
  | .str, _, _, _, h => by simpa only [RC] using h
  | .nil, _, _, _, h => by simpa only [RC] using h
  | .cons a b, x, cs, e, h => by
    have he : a.plain = true ∧ b.plain = true := by
      simp only [Ty.plain] at e
      split at e
      · exact ⟨‹_›, e⟩
      · cases e
    simp only [RC] at h ⊢
    obtain ⟨c1, c2, rfl, h1, h2⟩ := h
    exact ⟨c1, c2, rfl, RC_plain a _ _ he.1 h1, RC_plain b _ _ he.2 h2⟩
  | .sl _, _, _, e, _ => by cases e
theorem RS_mono {I I' : Nat → Prop} {w w' : World} (hI : ∀ b, I b → I' b) (hs : Same I w w') {t : Ty} {l : List t.den} {ao : Option Addr} {len cap : Nat}
    (h : RS I w t l ao len cap) : RS I' w' t l ao len cap := by
  have := RC_mono hI hs (.sl t) l _ (RC_sl.2 ⟨ao, len, cap, rfl, h⟩)
  obtain ⟨ao', len', cap', he, h'⟩ := RC_sl.1 this
  simp only [List.cons.injEq, Value.slice.injEq, and_true] at he
  obtain ⟨rfl, rfl, rfl⟩ := he
  exact h'
/-- A slice over a whole row, over a part of one: its pointer, how long, what room. -/
def RO (m : M) (id : Nat) (ao : Option Addr) (len cap : Nat) : Prop :=
  m.used id ∧ len = m.len id ∧ cap = m.cap id ∧ len ≤ cap ∧ cap ≤ maxLen ∧ ((m.blk id = none ∧ ao = none ∧ cap = 0) ∨ ∃ b, m.blk id = some b ∧ ao = some ⟨b, 0, none⟩)
def RW (m : M) (id off n : Nat) (ao : Option Addr) (len cap : Nat) : Prop :=
  m.used id ∧ len = n ∧ len ≤ cap ∧ off + cap ≤ m.cap id ∧ m.cap id ≤ maxLen ∧ ((m.blk id = none ∧ ao = none ∧ cap = 0) ∨ ∃ b o, m.blk id = some b ∧ ao = some ⟨b, o, none⟩ ∧ (0 < cap → o = off * m.sz id))
/-- A cell's value. -/
def RV0 (I : Nat → Prop) (w : World) (m : M) : AV → Value → Prop
  | .undef, v => v.oneCell' = true
  | .skp, _ => False
  | .int k n, v => v = .int k n ∧ inK k n
  | .bool b, v => v = .bool b
  | .kb b, v => v = .bool b
  | .str l, v => ∃ s : ByteArray, v = .string s ∧ l = bytesI s ∧ s.size ≤ maxLen
  | .nilp, v => v = .pointer none
  | .nilm, v => v = .map none
  | .nils, v => v = .slice none 0 0
  | .ptr i o, v => ∃ b, m.blk i = some b ∧ v = .pointer (some ⟨b, o, none⟩) ∧ m.used i
  | .imm t x, v => ∃ ao len cap, v = .slice ao len cap ∧ RS I w t x ao len cap
  | .iptr t x i off, v => ∃ b o, v = .pointer (some ⟨b, o + i * t.size + off, none⟩) ∧ I b ∧ i < x.length ∧
      ∀ i (h : i < x.length), ∃ es, RC I w t x[i] es ∧ ∀ j (hj : j < es.length), w.cell? ⟨b, o + i * t.size + j, none⟩ = some es[j]
  | .own i, v => ∃ ao len cap, v = .slice ao len cap ∧ RO m i ao len cap
  | .view i off n, v => ∃ ao len cap, v = .slice ao len cap ∧ RW m i off n ao len cap
  | .rptr i j off, v => ∃ b, m.blk i = some b ∧ v = .pointer (some ⟨b, j * m.sz i + off, none⟩) ∧ m.used i
  | .mapv i, v => ∃ b, m.blk i = some b ∧ v = .map (some b) ∧ m.used i
  | .bview i off n _, v => ∃ b cap, m.blk i = some b ∧ v = .slice (some ⟨b, off, none⟩) n cap ∧ n ≤ cap ∧ cap ≤ maxLen ∧ m.used i
  | .agg _, _ => False
  | .tup _, _ => False
  | .fn _ _ _, _ => False
def RVL0 (I : Nat → Prop) (w : World) (m : M) : List AV → List Value → Prop
  | [], [] => True
  | a :: l, v :: r => RV0 I w m a v ∧ RVL0 I w m l r
  | _, _ => False
def RV1 (I : Nat → Prop) (w : World) (m : M) : AV → Value → Prop
  | .agg l, v => ∃ cs : Array Value, v = .agg cs ∧ RVL0 I w m l cs.toList
  | a, v => RV0 I w m a v
def RVL1 (I : Nat → Prop) (w : World) (m : M) : List AV → List Value → Prop
  | [], [] => True
  | a :: l, v :: r => RV1 I w m a v ∧ RVL1 I w m l r
  | _, _ => False
def RV2 (I : Nat → Prop) (w : World) (m : M) : AV → Value → Prop
  | .fn f l c, v => ∃ fs cs : Array Value, v = .func (.func f) fs cs ∧ RVL1 I w m l fs.toList ∧ RVL1 I w m c cs.toList
  | a, v => RV1 I w m a v
def RVL2 (I : Nat → Prop) (w : World) (m : M) : List AV → List Value → Prop
  | [], [] => True
  | a :: l, v :: r => RV2 I w m a v ∧ RVL2 I w m l r
  | _, _ => False
def RV (I : Nat → Prop) (w : World) (m : M) : AV → Value → Prop
  | .undef, _ => True
  | .skp, v => v = Go.undef
  | .tup l, v => ∃ cs : Array Value, v = .tuple cs ∧ RVL1 I w m l cs.toList
  | a, v => RV2 I w m a v
theorem RV1_of {I : Nat → Prop} {w : World} {m : M} {a : AV} {v : Value} (h : RV0 I w m a v) : RV1 I w m a v := by
  cases a with
  | agg l => exact (h : False).elim
  | _ => exact h
theorem RV1_cases {I : Nat → Prop} {w : World} {m : M} {a : AV} {v : Value} (h : RV1 I w m a v) :
    RV0 I w m a v ∨ ∃ l, ∃ cs : Array Value, a = .agg l ∧ v = .agg cs ∧ RVL0 I w m l cs.toList := by
  cases a with
  | agg l => obtain ⟨cs, rfl, h⟩ := h; exact .inr ⟨l, cs, rfl, rfl, h⟩
  | _ => exact .inl h
theorem RV2_of {I : Nat → Prop} {w : World} {m : M} {a : AV} {v : Value} (h : RV1 I w m a v) : RV2 I w m a v := by
  cases a with
  | fn f l c => exact (h : False).elim
  | _ => exact h
theorem RV2_cases {I : Nat → Prop} {w : World} {m : M} {a : AV} {v : Value} (h : RV2 I w m a v) :
    RV1 I w m a v ∨ ∃ f l c, ∃ fs cs : Array Value, a = .fn f l c ∧ v = .func (.func f) fs cs ∧ RVL1 I w m l fs.toList ∧ RVL1 I w m c cs.toList := by
  cases a with
  | fn f l c => obtain ⟨fs, cs, rfl, h⟩ := h; exact .inr ⟨f, l, c, fs, cs, rfl, rfl, h⟩
  | _ => exact .inl h
theorem RV_of {I : Nat → Prop} {w : World} {m : M} {a : AV} {v : Value} (h : RV2 I w m a v) : RV I w m a v := by
  cases a with
  | tup l => exact (h : False).elim
  | undef => trivial
  | skp => exact (h : False).elim
  | _ => exact h
theorem RV_cases {I : Nat → Prop} {w : World} {m : M} {a : AV} {v : Value} (h : RV I w m a v) :
    a = .undef ∨ (a = .skp ∧ v = Go.undef) ∨ RV2 I w m a v ∨ (∃ l, ∃ cs : Array Value, a = .tup l ∧ v = .tuple cs ∧ RVL1 I w m l cs.toList) := by
  cases a with
  | undef => exact .inl rfl
  | skp => exact .inr (.inl ⟨rfl, h⟩)
  | tup l => obtain ⟨cs, rfl, h⟩ := h; exact .inr (.inr (.inr ⟨l, cs, rfl, rfl, h⟩))
  | _ => exact .inr (.inr (.inl h))
theorem RV_0 {I : Nat → Prop} {w : World} {m : M} {a : AV} {v : Value} (h : RV0 I w m a v) : RV I w m a v := RV_of (RV2_of (RV1_of h))
section mono
variable {I I' : Nat → Prop} {w w' : World} {m m' : M} (hI : ∀ b, I b → I' b) (hs : Same I w w') (hm : m.le m')
include hm
theorem RO_mono {i : Nat} {ao : Option Addr} {len cap : Nat} (h : RO m i ao len cap) : RO m' i ao len cap := by
  obtain ⟨h1, h2, h3, h4, h5, h6⟩ := h
  obtain ⟨e1, e2, e3, e4⟩ := hm.2 i h1
  exact ⟨hm.1 i h1, by rw [e3]; exact h2, by rw [e2]; exact h3, h4, h5, by rw [e1]; exact h6⟩
theorem RW_mono {i off n : Nat} {ao : Option Addr} {len cap : Nat} (h : RW m i off n ao len cap) : RW m' i off n ao len cap := by
  obtain ⟨h1, h2, h3, h4, h5, h6⟩ := h
  obtain ⟨e1, e2, e3, e4⟩ := hm.2 i h1
  exact ⟨hm.1 i h1, h2, h3, by rw [e2]; exact h4, by rw [e2]; exact h5, by rw [e1, e4]; exact h6⟩
include hI hs
theorem RV0_mono : ∀ (a : AV) (v : Value), RV0 I w m a v → RV0 I' w' m' a v
  | .undef, _, h => h
  | .skp, _, h => h.elim
  | .int _ _, _, h => h
  | .bool _, _, h => h
  | .kb _, _, h => h
  | .str _, _, h => h
  | .nilp, _, h => h
  | .nilm, _, h => h
  | .nils, _, h => h
  | .ptr i o, v, h => by
    obtain ⟨b, h1, h2, h3⟩ := h
    exact ⟨b, by rw [(hm.2 i h3).1]; exact h1, h2, hm.1 i h3⟩
  | .imm t x, v, h => by
    obtain ⟨ao, len, cap, rfl, h⟩ := h
    exact ⟨ao, len, cap, rfl, RS_mono hI hs h⟩
  | .iptr t x i off, v, h => by
    obtain ⟨b, o, rfl, hb, hi, h⟩ := h
    refine ⟨b, o, rfl, hI b hb, hi, fun i hi => ?_⟩
    obtain ⟨es, he, hc⟩ := h i hi
    exact ⟨es, RC_mono hI hs t _ _ he, fun j hj => by rw [hs.cell hb]; exact hc j hj⟩
  | .own i, v, h => by obtain ⟨ao, len, cap, rfl, h⟩ := h; exact ⟨ao, len, cap, rfl, RO_mono hm h⟩
  | .view i o n, v, h => by obtain ⟨ao, len, cap, rfl, h⟩ := h; exact ⟨ao, len, cap, rfl, RW_mono hm h⟩
  | .rptr i j o, v, h => by
    obtain ⟨b, h1, h2, h3⟩ := h
    exact ⟨b, by rw [(hm.2 i h3).1]; exact h1, by rw [(hm.2 i h3).2.2.2]; exact h2, hm.1 i h3⟩
  | .mapv i, v, h => by
    obtain ⟨b, h1, h2, h3⟩ := h
    exact ⟨b, by rw [(hm.2 i h3).1]; exact h1, h2, hm.1 i h3⟩
  | .bview i off n t, v, h => by
    obtain ⟨b, cap, h1, h2, h3, h4, h5⟩ := h
    exact ⟨b, cap, by rw [(hm.2 i h5).1]; exact h1, h2, h3, h4, hm.1 i h5⟩
  | .agg _, _, h => h.elim
  | .tup _, _, h => h.elim
  | .fn _ _ _, _, h => h.elim
theorem RVL0_mono : ∀ (l : List AV) (r : List Value), RVL0 I w m l r → RVL0 I' w' m' l r
  | [], [], _ => trivial
  | a :: l, v :: r, h => ⟨RV0_mono hI hs hm a v h.1, RVL0_mono l r h.2⟩
  | [], _ :: _, h => h.elim
  | _ :: _, [], h => h.elim
theorem RV1_mono (a : AV) (v : Value) (h : RV1 I w m a v) : RV1 I' w' m' a v := by
  rcases RV1_cases h with h' | ⟨l, cs, rfl, rfl, h'⟩
  · exact RV1_of (RV0_mono hI hs hm _ _ h')
  · exact ⟨cs, rfl, RVL0_mono hI hs hm _ _ h'⟩
theorem RVL1_mono : ∀ (l : List AV) (r : List Value), RVL1 I w m l r → RVL1 I' w' m' l r
  | [], [], _ => trivial
  | a :: l, v :: r, h => ⟨RV1_mono hI hs hm a v h.1, RVL1_mono l r h.2⟩
  | [], _ :: _, h => h.elim
  | _ :: _, [], h => h.elim
theorem RV2_mono (a : AV) (v : Value) (h : RV2 I w m a v) : RV2 I' w' m' a v := by
  rcases RV2_cases h with h' | ⟨f, l, c, fs, cs, rfl, rfl, h', h''⟩
  · exact RV2_of (RV1_mono hI hs hm _ _ h')
  · exact ⟨fs, cs, rfl, RVL1_mono hI hs hm _ _ h', RVL1_mono hI hs hm _ _ h''⟩
theorem RVL2_mono : ∀ (l : List AV) (r : List Value), RVL2 I w m l r → RVL2 I' w' m' l r
  | [], [], _ => trivial
  | a :: l, v :: r, h => ⟨RV2_mono hI hs hm a v h.1, RVL2_mono l r h.2⟩
  | [], _ :: _, h => h.elim
  | _ :: _, [], h => h.elim
theorem RV_mono (a : AV) (v : Value) (h : RV I w m a v) : RV I' w' m' a v := by
  rcases RV_cases h with rfl | ⟨rfl, rfl⟩ | h' | ⟨l, cs, rfl, rfl, h'⟩
  · trivial
  · rfl
  · exact RV_of (RV2_mono hI hs hm _ _ h')
  · exact ⟨cs, rfl, RVL1_mono hI hs hm _ _ h'⟩
end mono
/-- Elements that lie in cells one behind the other. -/
def Elems (I : Nat → Prop) (w : World) (t : Ty) (x : List t.den) (cs : Array Value) : Prop :=
  ∀ i (h : i < x.length), ∃ es, RC I w t x[i] es ∧ ∀ j (hj : j < es.length), cs[i * t.size + j]? = some es[j]
/-- A value that is data, as one cell or as many. -/
def aggT : Ty → Bool | .nil => true | .cons _ _ => true | _ => false
def isAggV : Value → Bool | .agg _ => true | _ => false
def RVal (I : Nat → Prop) (w : World) (t : Ty) (x : t.den) (v : Value) : Prop := RC I w t x v.cells.toList ∧ isAggV v = aggT t
/-- Entries of a map. -/
def Entries (I : Nat → Prop) (w : World) (sq : Bool) (kt vt : Ty) (l : List (kt.den × vt.den)) (es : Array MapEntry) (clock : Nat) : Prop :=
  l.length = es.size ∧ (∀ i (h : i < l.length) (h' : i < es.size), RVal I w kt l[i].1 es[i].key ∧ RVal I w vt l[i].2 es[i].val) ∧
  (∀ i (h : i < es.size), es[i].born < clock) ∧ (sq = true → clock = es.size ∧ ∀ i (h : i < es.size), es[i].born = i)
/-- No cell of a block is frozen. -/
def FzOk (fz : Nat × Nat) (n : Nat) : Prop := ∀ o, o < n → fz.1 ≤ o → ¬ o < fz.2
theorem FzOk.zero (n : Nat) : FzOk (0, 0) n := fun _ _ _ h => by simp at h
/-- A thing of the store. -/
def ObjOk (I : Nat → Prop) (w : World) (m : M) (id : Nat) : Obj → Prop
  | .dead => True
  | .box l => ∃ (b : Nat) (cs : Array Value) (T : TypeId) (fz : Nat × Nat), m.blk id = some b ∧ w.heap[b]? = some (.cells cs T fz) ∧ FzOk fz cs.size ∧ RVL0 I w m l cs.toList
  | .row _ t x => m.sz id = t.size ∧ x.length = m.len id ∧ x.length ≤ m.cap id ∧ m.cap id ≤ maxLen ∧ ((m.blk id = none ∧ m.cap id = 0) ∨
      ∃ (b : Nat) (cs : Array Value) (T : TypeId) (fz : Nat × Nat), m.blk id = some b ∧ w.heap[b]? = some (.cells cs T fz) ∧ FzOk fz cs.size ∧ cs.size = m.cap id * t.size ∧ Elems I w t x cs)
  | .map sq kt vt l => ∃ (b : Nat) (es : Array MapEntry) (clock : Nat), m.blk id = some b ∧ w.heap[b]? = some (.map es clock) ∧ Entries I w sq kt vt l es clock
  | .iter l p => ∃ (b : Nat) (s : ByteArray), m.blk id = some b ∧ w.heap[b]? = some (.stringIter s p) ∧ l = bytesI s ∧ s.size ≤ maxLen
/-- What may be written; what is there at all. -/
def Obj.mut : Obj → Bool
  | .dead => false
  | .row fz _ _ => !fz
  | _ => true
def Obj.live : Obj → Bool
  | .dead => false
  | _ => true
abbrev Sto := Nat → Option Obj
structure HRel (I : Nat → Prop) (w : World) (m : M) (σ : Sto) : Prop where
  lt : ∀ i, σ i ≠ none → m.used i
  obj : ∀ i o, σ i = some o → ObjOk I w m i o
  inj : ∀ i j o o' b, σ i = some o → σ j = some o' → o.live = true → o'.live = true → m.blk i = some b → m.blk j = some b → i = j
  notI : ∀ i o b, σ i = some o → o.mut = true → m.blk i = some b → ¬ I b
  isI : ∀ i t x b, σ i = some (.row true t x) → m.blk i = some b → I b
  Ilt : ∀ b, I b → b < w.heap.size
theorem lt_of_get {w : World} {b : Nat} {x : Go.Obj} (h : w.heap[b]? = some x) : b < w.heap.size := by
  rw [Array.getElem?_eq_some_iff] at h; exact h.1
theorem ObjOk.lt {I : Nat → Prop} {w : World} {m : M} {id b : Nat} {o : Obj} (h : ObjOk I w m id o) (hl : o.live = true) (hb : m.blk id = some b) : b < w.heap.size := by
  cases o with
  | dead => cases hl
  | box l => obtain ⟨b', cs, T, fz, e, h, _⟩ := h; rw [hb] at e; cases e; exact lt_of_get h
  | row fz t x =>
    obtain ⟨_, _, _, _, h⟩ := h
    rcases h with ⟨e, _⟩ | ⟨b', cs, T, fz, e, h, _⟩
    · rw [hb] at e; cases e
    · rw [hb] at e; cases e; exact lt_of_get h
  | map q kt vt l => obtain ⟨b', cs, T, e, h, _⟩ := h; rw [hb] at e; cases e; exact lt_of_get h
  | iter l p => obtain ⟨b', s, e, h, _⟩ := h; rw [hb] at e; cases e; exact lt_of_get h
/-- Outside X, what was there is as it was. -/
structure Fr (X : Nat → Prop) (w w' : World) : Prop where
  os : w'.os = w.os
  tape : w'.tape = w.tape
  output : w'.output = w.output
  size : w.heap.size ≤ w'.heap.size
  block : ∀ k, k < w.heap.size → ¬ X k → w'.heap[k]? = w.heap[k]?
theorem Fr.refl (X : Nat → Prop) (w : World) : Fr X w w := ⟨rfl, rfl, rfl, Nat.le_refl _, fun _ _ _ => rfl⟩
theorem Fr.trans {X Y : Nat → Prop} {a b c : World} (h : Fr X a b) (k : Fr Y b c) (hY : ∀ i, i < a.heap.size → Y i → X i) : Fr X a c :=
  ⟨k.os.trans h.os, k.tape.trans h.tape, k.output.trans h.output, Nat.le_trans h.size k.size, fun i hi hx =>
    (k.block i (Nat.lt_of_lt_of_le hi h.size) (fun hy => hx (hY i hi hy))).trans (h.block i hi hx)⟩
theorem Fr.below {X : Nat → Prop} {w w' : World} (h : Fr X w w') (hX : ∀ b, b < w.heap.size → ¬ X b) : Below w.heap.size w w' :=
  ⟨h.os, h.tape, h.output, h.size, fun k hk => h.block k hk (hX k hk)⟩
theorem Fr.of_below {w w' : World} (h : Below w.heap.size w w') (X : Nat → Prop) : Fr X w w' :=
  ⟨h.os, h.tape, h.output, h.size, fun k hk _ => h.block k hk⟩
theorem Fr.alloc (X : Nat → Prop) (w : World) (o : Go.Obj) : Fr X w (w.alloc o) :=
  Fr.of_below ((Below.refl _ _).alloc (Nat.le_refl _) o) X
theorem Fr.weak {X Y : Nat → Prop} {w w' : World} (h : Fr X w w') (hXY : ∀ b, X b → Y b) : Fr Y w w' :=
  ⟨h.os, h.tape, h.output, h.size, fun k hk hy => h.block k hk (fun hx => hy (hXY k hx))⟩
/-- The memory's part of a state: X0: which old blocks may be written; I0: what the arguments lead to; w0: the memory when the call began. -/
structure HS (X0 : Bool → Nat → Prop) (I0 : Nat → Prop) (w0 : World) (σ : Sto) (I : Nat → Prop) (w : World) (m : M) : Prop where
  H : HRel I w m σ
  fr0 : Fr (X0 true) w0 w
  Isub : ∀ b, I0 b → I b
  Inew : ∀ b, I b → I0 b ∨ w0.heap.size ≤ b ∨ X0 true b
  own : ∀ i o b, σ i = some o → o.mut = true → m.blk i = some b → X0 true b ∨ w0.heap.size ≤ b
  ownL : ∀ i o b, σ i = some o → o.live = true → m.blk i = some b → X0 false b ∨ w0.heap.size ≤ b
structure Evo (I : Nat → Prop) (w : World) (m : M) (I' : Nat → Prop) (w' : World) (m' : M) : Prop where
  up : ∀ b, I b → I' b
  same : Same I w w'
  m : m.le m'
theorem Evo.refl (I : Nat → Prop) (w : World) (m : M) : Evo I w m I w m := ⟨fun _ h => h, fun _ _ => rfl, m.le_refl⟩
theorem Evo.trans {I I' I'' : Nat → Prop} {w w' w'' : World} {m m' m'' : M} (h : Evo I w m I' w' m') (k : Evo I' w' m' I'' w'' m'') : Evo I w m I'' w'' m'' :=
  ⟨fun b hb => k.up b (h.up b hb), fun b hb => (k.same b (h.up b hb)).trans (h.same b hb), M.le_trans h.m k.m⟩
theorem Evo.rv {I I' : Nat → Prop} {w w' : World} {m m' : M} (h : Evo I w m I' w' m') {a : AV} {v : Value} (hv : RV I w m a v) : RV I' w' m' a v := RV_mono h.up h.same h.m a v hv
theorem Elems.mono {I I' : Nat → Prop} {w w' : World} (hI : ∀ b, I b → I' b) (hs : Same I w w') {t : Ty} {x : List t.den} {cs : Array Value} (h : Elems I w t x cs) : Elems I' w' t x cs := fun i hi => by
  obtain ⟨es, h6, h7⟩ := h i hi
  exact ⟨es, RC_mono hI hs t _ _ h6, h7⟩
theorem Entries.mono {I I' : Nat → Prop} {w w' : World} (hI : ∀ b, I b → I' b) (hs : Same I w w') {q : Bool} {kt vt : Ty} {l : List (kt.den × vt.den)} {es : Array MapEntry} {c : Nat} (h : Entries I w q kt vt l es c) : Entries I' w' q kt vt l es c :=
  ⟨h.1, fun i h1 h2 => ⟨⟨RC_mono hI hs kt _ _ (h.2.1 i h1 h2).1.1, (h.2.1 i h1 h2).1.2⟩, ⟨RC_mono hI hs vt _ _ (h.2.1 i h1 h2).2.1, (h.2.1 i h1 h2).2.2⟩⟩, h.2.2⟩
theorem ObjOk.mono {I I' : Nat → Prop} {w w' : World} {m m' : M} {id : Nat} {o : Obj} (hI : ∀ b, I b → I' b) (hs : Same I w w') (hm : m.le m') (hid : m.used id)
    (hb : o.live = true → ∀ b, m.blk id = some b → w'.heap[b]? = w.heap[b]?) (h : ObjOk I w m id o) : ObjOk I' w' m' id o := by
  obtain ⟨e1, e2, e3, e4⟩ := hm.2 id hid
  cases o with
  | dead => trivial
  | box l =>
    obtain ⟨b, cs, T, fz, h0, h1, hz, h2⟩ := h
    exact ⟨b, cs, T, fz, by rw [e1]; exact h0, by rw [hb rfl b h0]; exact h1, hz, RVL0_mono hI hs hm _ _ h2⟩
  | row fz t x =>
    obtain ⟨h1, h2, h3, h4, h5⟩ := h
    refine ⟨by rw [e4]; exact h1, by rw [e3]; exact h2, by rw [e2]; exact h3, by rw [e2]; exact h4, ?_⟩
    rw [e1, e2]
    rcases h5 with h5 | ⟨b, cs, T, f, h6, h7, hz, h8, h9⟩
    · exact .inl h5
    · exact .inr ⟨b, cs, T, f, h6, by rw [hb rfl b h6]; exact h7, hz, h8, h9.mono hI hs⟩
  | map q kt vt l =>
    obtain ⟨b, es, c, h0, h1, h2⟩ := h
    exact ⟨b, es, c, by rw [e1]; exact h0, by rw [hb rfl b h0]; exact h1, h2.mono hI hs⟩
  | iter l p =>
    obtain ⟨b, s, h0, h1, h2⟩ := h
    exact ⟨b, s, by rw [e1]; exact h0, by rw [hb rfl b h0]; exact h1, h2⟩
end Go.Eng
