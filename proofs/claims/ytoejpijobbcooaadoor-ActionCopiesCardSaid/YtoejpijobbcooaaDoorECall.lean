/- Calls by a function's summary. No condition. -/
import Derived.Test.YtoejpijobbcooaaDoorEOps8
namespace Go.Eng
set_option linter.unusedVariables false
set_option linter.unusedSimpArgs false
open Go.RowKit
/-- Other numbers for the same things. -/
def ren0 (g : Nat → Nat) : AV → AV
  | .ptr i o => .ptr (g i) o
  | .own i => .own (g i)
  | .view i o n => .view (g i) o n
  | .rptr i j o => .rptr (g i) j o
  | .mapv i => .mapv (g i)
  | .bview i o n t => .bview (g i) o n t
  | v => v
def ren1 (g : Nat → Nat) : AV → AV
  | .agg l => .agg (l.map (ren0 g))
  | v => ren0 g v
def ren2 (g : Nat → Nat) : AV → AV
  | .fn f l c => .fn f (l.map (ren1 g)) (c.map (ren1 g))
  | .tup l => .tup (l.map (ren1 g))
  | v => ren1 g v
/-- What one book says of a number, another says of its other number. -/
def Rn (m m' : M) (g : Nat → Nat) (i : Nat) : Prop := m'.used (g i) ∧ m'.blk (g i) = m.blk i ∧ m'.cap (g i) = m.cap i ∧ m'.len (g i) = m.len i ∧ m'.sz (g i) = m.sz i
theorem ids1_of {v : AV} (h : ∀ l, v ≠ .agg l) (g : Nat → Nat) : v.ids1 = v.ids0 ∧ ren1 g v = ren0 g v := by
  cases v with
  | agg l => exact absurd rfl (h l)
  | _ => exact ⟨rfl, rfl⟩
theorem ids2_of {v : AV} (h : ∀ f l c, v ≠ .fn f l c) (h' : ∀ l, v ≠ .tup l) (g : Nat → Nat) : v.ids = v.ids1 ∧ ren2 g v = ren1 g v := by
  cases v with
  | fn f l c => exact absurd rfl (h f l c)
  | tup l => exact absurd rfl (h' l)
  | _ => exact ⟨rfl, rfl⟩
theorem ren0_agg {g : Nat → Nat} {v : AV} {l : List AV} (h : ren0 g v = .agg l) : v = .agg l := by cases v <;> simp_all [ren0]
section ren
variable {I : Nat → Prop} {w : World} {m m' : M} {g : Nat → Nat}
theorem RV0_ren {v : AV} {cv : Value} (h : ∀ i ∈ v.ids0, m.used i → Rn m m' g i) (hv : RV0 I w m v cv) : RV0 I w m' (ren0 g v) cv := by
  cases v with
  | ptr i o =>
    obtain ⟨b, h1, h2, h3⟩ := hv
    obtain ⟨k1, k2, k3, k4, k5⟩ := h i (by simp [AV.ids0]) h3
    exact ⟨b, by rw [k2]; exact h1, h2, k1⟩
  | own i =>
    obtain ⟨ao, len, cap, rfl, h1, h2, h3, h4, h5, h6⟩ := hv
    obtain ⟨k1, k2, k3, k4, k5⟩ := h i (by simp [AV.ids0]) h1
    exact ⟨ao, len, cap, rfl, k1, by rw [k4]; exact h2, by rw [k3]; exact h3, h4, h5, by rw [k2]; exact h6⟩
  | view i o n =>
    obtain ⟨ao, len, cap, rfl, h1, h2, h3, h4, h5, h6⟩ := hv
    obtain ⟨k1, k2, k3, k4, k5⟩ := h i (by simp [AV.ids0]) h1
    exact ⟨ao, len, cap, rfl, k1, h2, h3, by rw [k3]; exact h4, by rw [k3]; exact h5, by rw [k2, k5]; exact h6⟩
  | rptr i j o =>
    obtain ⟨b, h1, h2, h3⟩ := hv
    obtain ⟨k1, k2, k3, k4, k5⟩ := h i (by simp [AV.ids0]) h3
    exact ⟨b, by rw [k2]; exact h1, by rw [k5]; exact h2, k1⟩
  | mapv i =>
    obtain ⟨b, h1, h2, h3⟩ := hv
    obtain ⟨k1, k2, k3, k4, k5⟩ := h i (by simp [AV.ids0]) h3
    exact ⟨b, by rw [k2]; exact h1, h2, k1⟩
  | bview i o n t =>
    obtain ⟨b, cap, h1, h2, h3, h4, h5⟩ := hv
    obtain ⟨k1, k2, k3, k4, k5⟩ := h i (by simp [AV.ids0]) h5
    exact ⟨b, cap, by rw [k2]; exact h1, h2, h3, h4, k1⟩
  | _ => exact hv
theorem RVL0_ren : ∀ {l : List AV} {r : List Value}, (∀ i ∈ idsL0 l, m.used i → Rn m m' g i) → RVL0 I w m l r → RVL0 I w m' (l.map (ren0 g)) r
  | [], [], _, _ => trivial
  | v :: l, c :: r, h, hv => ⟨RV0_ren (fun i hi => h i (by simp [idsL0]; exact .inl hi)) hv.1, RVL0_ren (fun i hi => h i (by simp only [idsL0, List.flatMap_cons, List.mem_append]; exact .inr hi)) hv.2⟩
  | [], _ :: _, _, hv => hv.elim
  | _ :: _, [], _, hv => hv.elim
theorem RV1_ren {v : AV} {cv : Value} (h : ∀ i ∈ v.ids1, m.used i → Rn m m' g i) (hv : RV1 I w m v cv) : RV1 I w m' (ren1 g v) cv := by
  rcases RV1_cases hv with hv' | ⟨l, cs, rfl, rfl, hv'⟩
  · obtain ⟨e1, e2⟩ := ids1_of (v := v) (by rintro l rfl; exact hv') g
    rw [e1] at h; rw [e2]
    exact RV1_of (RV0_ren h hv')
  · exact ⟨cs, rfl, RVL0_ren h hv'⟩
theorem RVL1_ren : ∀ {l : List AV} {r : List Value}, (∀ i ∈ idsL1 l, m.used i → Rn m m' g i) → RVL1 I w m l r → RVL1 I w m' (l.map (ren1 g)) r
  | [], [], _, _ => trivial
  | v :: l, c :: r, h, hv => ⟨RV1_ren (fun i hi => h i (by simp only [idsL1, List.flatMap_cons, List.mem_append]; exact .inl hi)) hv.1, RVL1_ren (fun i hi => h i (by simp only [idsL1, List.flatMap_cons, List.mem_append]; exact .inr hi)) hv.2⟩
  | [], _ :: _, _, hv => hv.elim
  | _ :: _, [], _, hv => hv.elim
theorem RV2_ren {v : AV} {cv : Value} (h : ∀ i ∈ v.ids, m.used i → Rn m m' g i) (hv : RV2 I w m v cv) : RV2 I w m' (ren2 g v) cv := by
  rcases RV2_cases hv with hv | ⟨f, l, c, fs, cs, rfl, rfl, h1, h2⟩
  · obtain ⟨e1, e2⟩ := ids2_of (v := v) (by rintro f l c rfl; exact hv) (by rintro l rfl; exact hv) g
    rw [e1] at h; rw [e2]
    exact RV2_of (RV1_ren h hv)
  · exact ⟨fs, cs, rfl, RVL1_ren (fun i hi => h i (List.mem_append.2 (.inl hi))) h1, RVL1_ren (fun i hi => h i (List.mem_append.2 (.inr hi))) h2⟩
theorem RVL2_ren : ∀ {l : List AV} {r : List Value}, (∀ i ∈ l.flatMap AV.ids, m.used i → Rn m m' g i) → RVL2 I w m l r → RVL2 I w m' (l.map (ren2 g)) r
  | [], [], _, _ => trivial
  | v :: l, c :: r, h, hv => ⟨RV2_ren (fun i hi => h i (by simp only [List.flatMap_cons, List.mem_append]; exact .inl hi)) hv.1, RVL2_ren (fun i hi => h i (by simp only [List.flatMap_cons, List.mem_append]; exact .inr hi)) hv.2⟩
  | [], _ :: _, _, hv => hv.elim
  | _ :: _, [], _, hv => hv.elim
theorem RV_ren {v : AV} {cv : Value} (h : ∀ i ∈ v.ids, m.used i → Rn m m' g i) (hv : RV I w m v cv) : RV I w m' (ren2 g v) cv := by
  rcases RV_cases hv with rfl | ⟨rfl, rfl⟩ | hv' | ⟨l, cs, rfl, rfl, hv'⟩
  · trivial
  · rfl
  · exact RV_of (RV2_ren h hv')
  · exact ⟨cs, rfl, RVL1_ren h hv'⟩
end ren
/-- Backwards: the other book is read by the numbers of the first. -/
def Un (m m' : M) (g : Nat → Nat) (i : Nat) : Prop := m.used i ∧ m'.blk (g i) = m.blk i ∧ m'.cap (g i) = m.cap i ∧ m'.len (g i) = m.len i ∧ m'.sz (g i) = m.sz i
section unren
variable {I : Nat → Prop} {w : World} {m m' : M} {g : Nat → Nat}
theorem RV0_unren {v : AV} {cv : Value} (h : ∀ i ∈ v.ids0, Un m m' g i) (hv : RV0 I w m' (ren0 g v) cv) : RV0 I w m v cv := by
  cases v with
  | ptr i o =>
    obtain ⟨b, h1, h2, h3⟩ := hv
    obtain ⟨k1, k2, k3, k4, k5⟩ := h i (by simp [AV.ids0])
    exact ⟨b, by rw [← k2]; exact h1, h2, k1⟩
  | own i =>
    obtain ⟨ao, len, cap, rfl, h1, h2, h3, h4, h5, h6⟩ := hv
    obtain ⟨k1, k2, k3, k4, k5⟩ := h i (by simp [AV.ids0])
    exact ⟨ao, len, cap, rfl, k1, by rw [← k4]; exact h2, by rw [← k3]; exact h3, h4, h5, by rw [← k2]; exact h6⟩
  | view i o n =>
    obtain ⟨ao, len, cap, rfl, h1, h2, h3, h4, h5, h6⟩ := hv
    obtain ⟨k1, k2, k3, k4, k5⟩ := h i (by simp [AV.ids0])
    exact ⟨ao, len, cap, rfl, k1, h2, h3, by rw [← k3]; exact h4, by rw [← k3]; exact h5, by rw [← k2, ← k5]; exact h6⟩
  | rptr i j o =>
    obtain ⟨b, h1, h2, h3⟩ := hv
    obtain ⟨k1, k2, k3, k4, k5⟩ := h i (by simp [AV.ids0])
    exact ⟨b, by rw [← k2]; exact h1, by rw [← k5]; exact h2, k1⟩
  | mapv i =>
    obtain ⟨b, h1, h2, h3⟩ := hv
    obtain ⟨k1, k2, k3, k4, k5⟩ := h i (by simp [AV.ids0])
    exact ⟨b, by rw [← k2]; exact h1, h2, k1⟩
  | bview i o n t =>
    obtain ⟨b, cap, h1, h2, h3, h4, h5⟩ := hv
    obtain ⟨k1, k2, k3, k4, k5⟩ := h i (by simp [AV.ids0])
    exact ⟨b, cap, by rw [← k2]; exact h1, h2, h3, h4, k1⟩
  | _ => exact hv
theorem RVL0_unren : ∀ {l : List AV} {r : List Value}, (∀ i ∈ idsL0 l, Un m m' g i) → RVL0 I w m' (l.map (ren0 g)) r → RVL0 I w m l r
  | [], [], _, _ => trivial
  | v :: l, c :: r, h, hv => ⟨RV0_unren (fun i hi => h i (by simp only [idsL0, List.flatMap_cons, List.mem_append]; exact .inl hi)) hv.1, RVL0_unren (fun i hi => h i (by simp only [idsL0, List.flatMap_cons, List.mem_append]; exact .inr hi)) hv.2⟩
  | [], _ :: _, _, hv => hv.elim
  | _ :: _, [], _, hv => hv.elim
theorem RV1_unren {v : AV} {cv : Value} (h : ∀ i ∈ v.ids1, Un m m' g i) (hv : RV1 I w m' (ren1 g v) cv) : RV1 I w m v cv := by
  by_cases ha : ∃ l, v = .agg l
  · obtain ⟨l, rfl⟩ := ha
    obtain ⟨cs, rfl, hv⟩ := hv; exact ⟨cs, rfl, RVL0_unren h hv⟩
  · obtain ⟨e1, e2⟩ := ids1_of (v := v) (fun l e => ha ⟨l, e⟩) g
    rw [e1] at h; rw [e2] at hv
    rcases RV1_cases hv with hv | ⟨l, _, e, _⟩
    · exact RV1_of (RV0_unren h hv)
    · exact absurd ⟨l, ren0_agg e⟩ ha
theorem RVL1_unren : ∀ {l : List AV} {r : List Value}, (∀ i ∈ idsL1 l, Un m m' g i) → RVL1 I w m' (l.map (ren1 g)) r → RVL1 I w m l r
  | [], [], _, _ => trivial
  | v :: l, c :: r, h, hv => ⟨RV1_unren (fun i hi => h i (by simp only [idsL1, List.flatMap_cons, List.mem_append]; exact .inl hi)) hv.1, RVL1_unren (fun i hi => h i (by simp only [idsL1, List.flatMap_cons, List.mem_append]; exact .inr hi)) hv.2⟩
  | [], _ :: _, _, hv => hv.elim
  | _ :: _, [], _, hv => hv.elim
theorem RV2_unren {v : AV} {cv : Value} (h : ∀ i ∈ v.ids, Un m m' g i) (hv : RV2 I w m' (ren2 g v) cv) : RV2 I w m v cv := by
  by_cases ha : ∃ f l c, v = .fn f l c
  · obtain ⟨f, l, c, rfl⟩ := ha
    obtain ⟨fs, cs, rfl, h1, h2⟩ := hv
    exact ⟨fs, cs, rfl, RVL1_unren (fun i hi => h i (List.mem_append.2 (.inl hi))) h1, RVL1_unren (fun i hi => h i (List.mem_append.2 (.inr hi))) h2⟩
  · by_cases ht : ∃ l, v = .tup l
    · obtain ⟨l, rfl⟩ := ht
      exact (hv : False).elim
    · obtain ⟨e1, e2⟩ := ids2_of (v := v) (fun f l c e => ha ⟨f, l, c, e⟩) (fun l e => ht ⟨l, e⟩) g
      rw [e1] at h; rw [e2] at hv
      rcases RV2_cases hv with hv | ⟨f, l, c, _, _, e, _⟩
      · exact RV2_of (RV1_unren h hv)
      · exfalso
        cases v <;> simp_all [ren1, ren0]
theorem RVL2_unren : ∀ {l : List AV} {r : List Value}, (∀ i ∈ l.flatMap AV.ids, Un m m' g i) → RVL2 I w m' (l.map (ren2 g)) r → RVL2 I w m l r
  | [], [], _, _ => trivial
  | v :: l, c :: r, h, hv => ⟨RV2_unren (fun i hi => h i (by simp only [List.flatMap_cons, List.mem_append]; exact .inl hi)) hv.1, RVL2_unren (fun i hi => h i (by simp only [List.flatMap_cons, List.mem_append]; exact .inr hi)) hv.2⟩
  | [], _ :: _, _, hv => hv.elim
  | _ :: _, [], _, hv => hv.elim
end unren
/-- The caller's number of a local one. -/
def un (ρ : List Nat) (nx j : Nat) : Nat := match ρ.drop j with | i :: _ => i | [] => nx + (j - ρ.length)
theorem un_lt {ρ : List Nat} {nx j : Nat} (h : j < ρ.length) : un ρ nx j = ρ[j] := by
  unfold un
  rw [List.drop_eq_getElem_cons h]
theorem un_ge {ρ : List Nat} {nx j : Nat} (h : ρ.length ≤ j) : un ρ nx j = nx + (j - ρ.length) := by
  unfold un
  rw [List.drop_of_length_le h]
theorem unI_eq {ρ : List Nat} {nx j : Nat} {K : Nat → Prop} : unI ρ nx j K = K (un ρ nx j) := by
  unfold unI un
  cases ρ.drop j
  · exact litN_eq _ _
  · rfl
theorem un0_eq {ρ : List Nat} {nx : Nat} {v : AV} {K : AV → Prop} : un0 ρ nx v K = K (ren0 (un ρ nx) v) := by
  cases v <;> simp only [un0, unI_eq, ren0, force0_eq]
theorem unL0_eq {ρ : List Nat} {nx : Nat} : ∀ {l : List AV} {K : List AV → Prop}, unL0 ρ nx l K = K (l.map (ren0 (un ρ nx)))
  | [], _ => rfl
  | v :: r, K => by simp only [unL0, un0_eq, unL0_eq, List.map_cons]
theorem un1_eq {ρ : List Nat} {nx : Nat} {v : AV} {K : AV → Prop} : un1 ρ nx v K = K (ren1 (un ρ nx) v) := by
  cases v with
  | agg l => simp only [un1, unL0_eq, ren1]
  | _ => simp only [un1, un0_eq, ren1]
theorem unL1_eq {ρ : List Nat} {nx : Nat} : ∀ {l : List AV} {K : List AV → Prop}, unL1 ρ nx l K = K (l.map (ren1 (un ρ nx)))
  | [], _ => rfl
  | v :: r, K => by simp only [unL1, un1_eq, unL1_eq, List.map_cons]
theorem un2_eq {ρ : List Nat} {nx : Nat} {v : AV} {K : AV → Prop} : un2 ρ nx v K = K (ren2 (un ρ nx) v) := by
  cases v with
  | fn f l c => simp only [un2, unL1_eq, ren2]
  | tup l => simp only [un2, unL1_eq, ren2]
  | _ => simp only [un2, un1_eq, ren2]
def renO (g : Nat → Nat) : Obj → Obj
  | .box l => .box (l.map (ren0 g))
  | o => o
theorem unObj_eq {ρ : List Nat} {nx : Nat} {o : Obj} {K : Obj → Prop} : unObj ρ nx o K = K (renO (un ρ nx) o) := by
  cases o with
  | box l => simp only [unObj, unL0_eq, renO]
  | _ => rfl
/-- The store behind a call. -/
def unS (ρ : List Nat) (nx : Nat) : Nat → List Obj → Store → Store
  | _, [], st => st
  | j, o :: r, st => unS ρ nx (j + 1) r (st.set (un ρ nx j) (renO (un ρ nx) o))
theorem unSt_eq {ρ : List Nat} {nx : Nat} : ∀ {l : List Obj} {j : Nat} {st : Store} {K : Store → Prop}, unSt ρ nx j l st K = K (unS ρ nx j l st)
  | [], _, _, _ => rfl
  | o :: r, j, st, K => by simp only [unSt, unI_eq, unObj_eq, Store.setK_eq, unSt_eq, unS]
theorem un_inj {ρ : List Nat} {nx : Nat} (hn : ρ.Nodup) (hl : ∀ i ∈ ρ, i < nx) {i j : Nat} (h : un ρ nx i = un ρ nx j) : i = j := by
  rcases Nat.lt_or_ge i ρ.length with h1 | h1 <;> rcases Nat.lt_or_ge j ρ.length with h2 | h2
  · rw [un_lt h1, un_lt h2] at h
    rcases Nat.lt_trichotomy i j with hij | hij | hij
    · exact absurd h ((List.pairwise_iff_getElem.1 hn) i j h1 h2 hij)
    · exact hij
    · exact absurd h.symm ((List.pairwise_iff_getElem.1 hn) j i h2 h1 hij)
  · rw [un_lt h1, un_ge h2] at h
    have := hl _ (List.getElem_mem h1); omega
  · rw [un_ge h1, un_lt h2] at h
    have := hl _ (List.getElem_mem h2); omega
  · rw [un_ge h1, un_ge h2] at h; omega
theorem unS_get {ρ : List Nat} {nx : Nat} (hn : ρ.Nodup) (hl : ∀ i ∈ ρ, i < nx) : ∀ (l : List Obj) (j : Nat) (st : Store),
    (∀ k (h : k < l.length), (unS ρ nx j l st).get (un ρ nx (j + k)) = some (renO (un ρ nx) l[k])) ∧ (∀ i, (∀ k, k < l.length → i ≠ un ρ nx (j + k)) → (unS ρ nx j l st).get i = st.get i)
  | [], j, st => ⟨fun k h => absurd h (by simp), fun _ _ => rfl⟩
  | o :: r, j, st => by
    obtain ⟨h1, h2⟩ := unS_get hn hl r (j + 1) (st.set (un ρ nx j) (renO (un ρ nx) o))
    refine ⟨fun k hk => ?_, fun i hi => ?_⟩
    · cases k with
      | zero =>
        show (unS ρ nx (j + 1) r _).get _ = _
        rw [h2 _ (fun k hk e => by have := un_inj hn hl e; omega), Store.get_set, Nat.add_zero, if_pos rfl]; rfl
      | succ k =>
        have := h1 k (by simpa using hk)
        rw [show j + 1 + k = j + (k + 1) by omega] at this
        exact this
    · show (unS ρ nx (j + 1) r _).get _ = _
      rw [h2 i (fun k hk => by have := hi (k + 1) (by simpa using hk); rwa [show j + (k + 1) = j + 1 + k by omega] at this), Store.get_set, if_neg (by have := hi 0 (by simp); rwa [Nat.add_zero] at this)]
/-- Local numbers. -/
structure Can (ρ ρ' : List Nat) : Prop where
  pre : ρ <+: ρ'
  nodup : ρ.Nodup → ρ'.Nodup
theorem Can.refl (ρ : List Nat) : Can ρ ρ := ⟨List.prefix_refl _, id⟩
theorem Can.trans {a b c : List Nat} (h : Can a b) (k : Can b c) : Can a c := ⟨h.pre.trans k.pre, fun x => k.nodup (h.nodup x)⟩
theorem Can.len {ρ ρ' : List Nat} (h : Can ρ ρ') : ρ.length ≤ ρ'.length := h.pre.length_le
theorem Can.un {ρ ρ' : List Nat} {nx j : Nat} (h : Can ρ ρ') (hj : j < ρ.length) : un ρ' nx j = un ρ nx j := by
  have := h.len
  rw [un_lt hj, un_lt (by omega)]
  exact (h.pre.getElem hj).symm
theorem idxOf_some {i : Nat} : ∀ {ρ : List Nat} {n j : Nat}, idxOf i ρ n = some j → n ≤ j ∧ ρ[j - n]? = some i
  | [], _, _, h => by cases h
  | a :: r, n, j, h => by
    unfold idxOf at h
    cases hb : Nat.beq a i with
    | true =>
      rw [hb] at h; cases h
      have := Nat.eq_of_beq_eq_true hb
      exact ⟨Nat.le_refl _, by simp [this]⟩
    | false =>
      rw [hb] at h
      obtain ⟨h1, h2⟩ := idxOf_some (ρ := r) h
      refine ⟨by omega, ?_⟩
      rw [show j - n = (j - (n + 1)) + 1 by omega, List.getElem?_cons_succ]; exact h2
theorem idxOf_none {i : Nat} : ∀ {ρ : List Nat} {n : Nat}, idxOf i ρ n = none → i ∉ ρ
  | [], _, _ => by simp
  | a :: r, n, h => by
    unfold idxOf at h
    cases hb : Nat.beq a i with
    | true => rw [hb] at h; cases h
    | false =>
      rw [hb] at h
      have := idxOf_none (ρ := r) h
      have hne : a ≠ i := fun e => by subst e; rw [Nat.beq_refl] at hb; cases hb
      simp only [List.mem_cons, not_or]
      exact ⟨fun e => hne e.symm, this⟩
theorem look_eq (i : Nat) (ρ : List Nat) (nx : Nat) : ∃ j ρ', (∀ K, look i ρ K = K j ρ') ∧ Can ρ ρ' ∧ j < ρ'.length ∧ un ρ' nx j = i := by
  cases h : idxOf i ρ 0 with
  | some j =>
    obtain ⟨_, h1⟩ := idxOf_some h
    rw [Nat.sub_zero] at h1
    have hj : j < ρ.length := by
      rcases Nat.lt_or_ge j ρ.length with h | h
      · exact h
      · rw [List.getElem?_eq_none h] at h1; cases h1
    refine ⟨j, ρ, fun K => by unfold look; rw [h], Can.refl _, hj, ?_⟩
    rw [un_lt hj]; rw [List.getElem?_eq_getElem hj] at h1; exact Option.some.inj h1
  | none =>
    refine ⟨ρ.length, ρ ++ [i], fun K => by unfold look; rw [h], ⟨List.prefix_append _ _, fun hn => ?_⟩, by simp, ?_⟩
    · rw [List.nodup_append]
      exact ⟨hn, by simp, fun a ha b hb e => by simp only [List.mem_singleton] at hb; subst hb; subst e; exact idxOf_none h ha⟩
    · rw [un_lt (by simp)]; simp
/-- A value told by local numbers. -/
def CanV (nx : Nat) (ids : AV → List Nat) (ren : (Nat → Nat) → AV → AV) (ρ : List Nat) (v v' : AV) : Prop := ren (un ρ nx) v' = v ∧ ∀ j ∈ ids v', j < ρ.length
theorem ren0_congr {g h : Nat → Nat} {v : AV} (e : ∀ j ∈ v.ids0, g j = h j) : ren0 g v = ren0 h v := by
  cases v <;> simp only [ren0, AV.ids0, List.mem_singleton, forall_eq] at e ⊢ <;> rw [e]
theorem ren0L_congr {g h : Nat → Nat} {l : List AV} (e : ∀ j ∈ idsL0 l, g j = h j) : l.map (ren0 g) = l.map (ren0 h) :=
  List.map_congr_left fun v hv => ren0_congr fun j hj => e j (List.mem_flatMap.2 ⟨v, hv, hj⟩)
theorem ren1_congr {g h : Nat → Nat} {v : AV} (e : ∀ j ∈ v.ids1, g j = h j) : ren1 g v = ren1 h v := by
  by_cases ha : ∃ l, v = .agg l
  · obtain ⟨l, rfl⟩ := ha
    exact congrArg AV.agg (ren0L_congr e)
  · obtain ⟨e1, e2⟩ := ids1_of (v := v) (fun l e => ha ⟨l, e⟩) g
    rw [e2, (ids1_of (v := v) (fun l e => ha ⟨l, e⟩) h).2]
    rw [e1] at e
    exact ren0_congr e
theorem ren1L_congr {g h : Nat → Nat} {l : List AV} (e : ∀ j ∈ idsL1 l, g j = h j) : l.map (ren1 g) = l.map (ren1 h) :=
  List.map_congr_left fun v hv => ren1_congr fun j hj => e j (List.mem_flatMap.2 ⟨v, hv, hj⟩)
theorem ren2_congr {g h : Nat → Nat} {v : AV} (e : ∀ j ∈ v.ids, g j = h j) : ren2 g v = ren2 h v := by
  by_cases ha : ∃ f l c, v = .fn f l c
  · obtain ⟨f, l, c, rfl⟩ := ha
    simp only [ren2]
    rw [ren1L_congr fun j hj => e j (List.mem_append.2 (.inl hj)), ren1L_congr (l := c) fun j hj => e j (List.mem_append.2 (.inr hj))]
  · by_cases ht : ∃ l, v = .tup l
    · obtain ⟨l, rfl⟩ := ht
      exact congrArg AV.tup (ren1L_congr e)
    · obtain ⟨e1, e2⟩ := ids2_of (v := v) (fun f l c e => ha ⟨f, l, c, e⟩) (fun l e => ht ⟨l, e⟩) g
      rw [e2, (ids2_of (v := v) (fun f l c e => ha ⟨f, l, c, e⟩) (fun l e => ht ⟨l, e⟩) h).2]
      rw [e1] at e
      exact ren1_congr e
theorem can0_eq (v : AV) (ρ : List Nat) (nx : Nat) : ∃ v' ρ', (∀ K, can0 v ρ K = K v' ρ') ∧ Can ρ ρ' ∧ ren0 (un ρ' nx) v' = v ∧ ∀ j ∈ v'.ids0, j < ρ'.length := by
  cases v with
  | ptr i o =>
    obtain ⟨j, ρ', h1, h2, h3, h4⟩ := look_eq i ρ nx
    exact ⟨.ptr j o, ρ', fun K => h1 _, h2, by simp [ren0, h4], by simpa [AV.ids0] using h3⟩
  | own i =>
    obtain ⟨j, ρ', h1, h2, h3, h4⟩ := look_eq i ρ nx
    exact ⟨.own j, ρ', fun K => h1 _, h2, by simp [ren0, h4], by simpa [AV.ids0] using h3⟩
  | view i o n =>
    obtain ⟨j, ρ', h1, h2, h3, h4⟩ := look_eq i ρ nx
    exact ⟨.view j o n, ρ', fun K => h1 _, h2, by simp [ren0, h4], by simpa [AV.ids0] using h3⟩
  | rptr i k o =>
    obtain ⟨j, ρ', h1, h2, h3, h4⟩ := look_eq i ρ nx
    exact ⟨.rptr j k o, ρ', fun K => h1 _, h2, by simp [ren0, h4], by simpa [AV.ids0] using h3⟩
  | mapv i =>
    obtain ⟨j, ρ', h1, h2, h3, h4⟩ := look_eq i ρ nx
    exact ⟨.mapv j, ρ', fun K => h1 _, h2, by simp [ren0, h4], by simpa [AV.ids0] using h3⟩
  | bview i o n t =>
    obtain ⟨j, ρ', h1, h2, h3, h4⟩ := look_eq i ρ nx
    exact ⟨.bview j o n t, ρ', fun K => h1 _, h2, by simp [ren0, h4], by simpa [AV.ids0] using h3⟩
  | _ => exact ⟨_, ρ, fun K => rfl, Can.refl _, rfl, by simp [AV.ids0]⟩
theorem canL0_eq (nx : Nat) : ∀ (l : List AV) (ρ : List Nat), ∃ l' ρ', (∀ K, canL0 l ρ K = K l' ρ') ∧ Can ρ ρ' ∧ l'.map (ren0 (un ρ' nx)) = l ∧ ∀ j ∈ idsL0 l', j < ρ'.length
  | [], ρ => ⟨[], ρ, fun _ => rfl, Can.refl _, rfl, by simp [idsL0]⟩
  | v :: r, ρ => by
    obtain ⟨v', ρ1, h1, h2, h3, h4⟩ := can0_eq v ρ nx
    obtain ⟨r', ρ2, k1, k2, k3, k4⟩ := canL0_eq nx r ρ1
    refine ⟨v' :: r', ρ2, fun K => by simp only [canL0, h1, k1], h2.trans k2, ?_, fun j hj => ?_⟩
    · rw [List.map_cons, k3, ren0_congr fun j hj => k2.un (h4 j hj), h3]
    · simp only [idsL0, List.flatMap_cons, List.mem_append] at hj
      rcases hj with h | h
      · have := h4 j h; have := k2.len; omega
      · exact k4 j h
theorem can1_eq (v : AV) (ρ : List Nat) (nx : Nat) : ∃ v' ρ', (∀ K, can1 v ρ K = K v' ρ') ∧ Can ρ ρ' ∧ ren1 (un ρ' nx) v' = v ∧ ∀ j ∈ v'.ids1, j < ρ'.length := by
  by_cases h : ∃ l, v = .agg l
  · obtain ⟨l, rfl⟩ := h
    obtain ⟨l', ρ', h1, h2, h3, h4⟩ := canL0_eq nx l ρ
    exact ⟨.agg l', ρ', fun K => by simp only [can1, h1], h2, by simp only [ren1, h3], h4⟩
  · obtain ⟨v', ρ', h1, h2, h3, h4⟩ := can0_eq v ρ nx
    have hv' : ∀ l, v' ≠ .agg l := fun l e => by subst e; exact h ⟨l, h3.symm⟩
    obtain ⟨e1, e2⟩ := ids1_of hv' (un ρ' nx)
    refine ⟨v', ρ', fun K => ?_, h2, by rw [e2]; exact h3, by rw [e1]; exact h4⟩
    rw [← h1 K]
    cases v <;> first | rfl | exact absurd ⟨_, rfl⟩ h
theorem canL1_eq (nx : Nat) : ∀ (l : List AV) (ρ : List Nat), ∃ l' ρ', (∀ K, canL1 l ρ K = K l' ρ') ∧ Can ρ ρ' ∧ l'.map (ren1 (un ρ' nx)) = l ∧ ∀ j ∈ idsL1 l', j < ρ'.length
  | [], ρ => ⟨[], ρ, fun _ => rfl, Can.refl _, rfl, by simp [idsL1]⟩
  | v :: r, ρ => by
    obtain ⟨v', ρ1, h1, h2, h3, h4⟩ := can1_eq v ρ nx
    obtain ⟨r', ρ2, k1, k2, k3, k4⟩ := canL1_eq nx r ρ1
    refine ⟨v' :: r', ρ2, fun K => by simp only [canL1, h1, k1], h2.trans k2, ?_, fun j hj => ?_⟩
    · rw [List.map_cons, k3, ren1_congr fun j hj => k2.un (h4 j hj), h3]
    · simp only [idsL1, List.flatMap_cons, List.mem_append] at hj
      rcases hj with h | h
      · have := h4 j h; have := k2.len; omega
      · exact k4 j h
theorem can2_eq (v : AV) (ρ : List Nat) (nx : Nat) : ∃ v' ρ', (∀ K, can2 v ρ K = K v' ρ') ∧ Can ρ ρ' ∧ ren2 (un ρ' nx) v' = v ∧ ∀ j ∈ v'.ids, j < ρ'.length := by
  by_cases hf : ∃ f l c, v = .fn f l c
  · obtain ⟨f, l, c, rfl⟩ := hf
    obtain ⟨l', ρ1, h1, h2, h3, h4⟩ := canL1_eq nx l ρ
    obtain ⟨c', ρ2, k1, k2, k3, k4⟩ := canL1_eq nx c ρ1
    refine ⟨.fn f l' c', ρ2, fun K => by simp only [can2, h1, k1], h2.trans k2, ?_, fun j hj => ?_⟩
    · simp only [ren2]; rw [k3, ren1L_congr fun j hj => k2.un (h4 j hj), h3]
    · rcases List.mem_append.1 hj with h | h
      · have := h4 j h; have := k2.len; omega
      · exact k4 j h
  · by_cases ht : ∃ l, v = .tup l
    · obtain ⟨l, rfl⟩ := ht
      obtain ⟨l', ρ', h1, h2, h3, h4⟩ := canL1_eq nx l ρ
      exact ⟨.tup l', ρ', fun K => by simp only [can2, h1], h2, by simp only [ren2, h3], h4⟩
    · obtain ⟨v', ρ', h1, h2, h3, h4⟩ := can1_eq v ρ nx
      have hv1 : ∀ f l c, v' ≠ .fn f l c := fun f l c e => by subst e; exact hf ⟨f, l, c, h3.symm⟩
      have hv2 : ∀ l, v' ≠ .tup l := fun l e => by subst e; exact ht ⟨l, h3.symm⟩
      obtain ⟨e1, e2⟩ := ids2_of hv1 hv2 (un ρ' nx)
      refine ⟨v', ρ', fun K => ?_, h2, by rw [e2]; exact h3, by rw [e1]; exact h4⟩
      rw [← h1 K]
      cases v <;> first | rfl | exact absurd ⟨_, rfl⟩ ht | exact absurd ⟨_, _, _, rfl⟩ hf
theorem canL2_eq (nx : Nat) : ∀ (l : List AV) (ρ : List Nat), ∃ l' ρ', (∀ K, canL2 l ρ K = K l' ρ') ∧ Can ρ ρ' ∧ l'.map (ren2 (un ρ' nx)) = l ∧ ∀ j ∈ l'.flatMap AV.ids, j < ρ'.length
  | [], ρ => ⟨[], ρ, fun _ => rfl, Can.refl _, rfl, by simp⟩
  | v :: r, ρ => by
    obtain ⟨v', ρ1, h1, h2, h3, h4⟩ := can2_eq v ρ nx
    obtain ⟨r', ρ2, k1, k2, k3, k4⟩ := canL2_eq nx r ρ1
    refine ⟨v' :: r', ρ2, fun K => by simp only [canL2, h1, k1], h2.trans k2, ?_, fun j hj => ?_⟩
    · rw [List.map_cons, k3, ren2_congr fun j hj => k2.un (h4 j hj), h3]
    · simp only [List.flatMap_cons, List.mem_append] at hj
      rcases hj with h | h
      · have := h4 j h; have := k2.len; omega
      · exact k4 j h
/-- As data, told. -/
def nrmF0 : AV → AV | .kb b => .bool b | v => v
theorem nrm0_eq {v : AV} {K : AV → Prop} : nrm0 v K = K (nrmF0 v) := by cases v <;> rfl
theorem nrmL0_eq : ∀ {l : List AV} {K : List AV → Prop}, nrmL0 l K = K (l.map nrmF0)
  | [], _ => rfl
  | v :: r, K => by simp only [nrmL0, nrm0_eq, nrmL0_eq, List.map_cons]
theorem RV0_nrm {I : Nat → Prop} {w : World} {m : M} {v : AV} {cv : Value} (h : RV0 I w m v cv) : RV0 I w m (nrmF0 v) cv := by cases v <;> exact h
theorem RVL0_nrm {I : Nat → Prop} {w : World} {m : M} : ∀ {l : List AV} {r : List Value}, RVL0 I w m l r → RVL0 I w m (l.map nrmF0) r
  | [], [], _ => trivial
  | _ :: _, _ :: _, h => ⟨RV0_nrm h.1, RVL0_nrm h.2⟩
  | [], _ :: _, h => h.elim
  | _ :: _, [], h => h.elim
def nrmF1 : AV → AV | .agg l => .agg (l.map nrmF0) | v => nrmF0 v
theorem nrm1_eq {v : AV} {K : AV → Prop} : nrm1 v K = K (nrmF1 v) := by
  cases v with
  | agg l => simp only [nrm1, nrmL0_eq, nrmF1]
  | _ => rfl
theorem nrmL1_eq : ∀ {l : List AV} {K : List AV → Prop}, nrmL1 l K = K (l.map nrmF1)
  | [], _ => rfl
  | v :: r, K => by simp only [nrmL1, nrm1_eq, nrmL1_eq, List.map_cons]
theorem RV1_nrm {I : Nat → Prop} {w : World} {m : M} {v : AV} {cv : Value} (h : RV1 I w m v cv) : RV1 I w m (nrmF1 v) cv := by
  cases v with
  | agg l => obtain ⟨cs, rfl, h⟩ := h; exact ⟨cs, rfl, RVL0_nrm h⟩
  | _ => exact h
theorem RVL1_nrm {I : Nat → Prop} {w : World} {m : M} : ∀ {l : List AV} {r : List Value}, RVL1 I w m l r → RVL1 I w m (l.map nrmF1) r
  | [], [], _ => trivial
  | _ :: _, _ :: _, h => ⟨RV1_nrm h.1, RVL1_nrm h.2⟩
  | [], _ :: _, h => h.elim
  | _ :: _, [], h => h.elim
theorem ids0_nrm (v : AV) : (nrmF0 v).ids0 = v.ids0 := by cases v <;> rfl
theorem idsL0_nrm (l : List AV) : idsL0 (l.map nrmF0) = idsL0 l := by
  induction l with
  | nil => rfl
  | cons v r ih => simp only [idsL0, List.map_cons, List.flatMap_cons, ids0_nrm] at ih ⊢; rw [ih]
theorem ids1_nrm (v : AV) : (nrmF1 v).ids1 = v.ids1 := by
  cases v with
  | agg l => exact idsL0_nrm l
  | _ => rfl
theorem idsL1_nrm (l : List AV) : idsL1 (l.map nrmF1) = idsL1 l := by
  induction l with
  | nil => rfl
  | cons v r ih => simp only [idsL1, List.map_cons, List.flatMap_cons, ids1_nrm] at ih ⊢; rw [ih]
/-- An argument as data. -/
theorem nrm2_cases (v : AV) : (∀ K, ¬ nrm2 v K) ∨ ∃ v', (∀ K, nrm2 v K = K v') ∧ v'.ids = v.ids ∧ ∀ {I : Nat → Prop} {w : World} {m : M} {cv : Value}, RV I w m v cv → RV2 I w m v' cv := by
  cases v with
  | undef => exact .inl fun K h => h
  | skp => exact .inl fun K h => h
  | tup l => exact .inl fun K h => h
  | agg l => exact .inr ⟨.agg (l.map nrmF0), fun K => by simp only [nrm2, nrmL0_eq], idsL0_nrm l, fun {I w m cv} h => by obtain ⟨cs, rfl, h⟩ := h; exact ⟨cs, rfl, RVL0_nrm h⟩⟩
  | fn f l c => exact .inr ⟨.fn f (l.map nrmF1) (c.map nrmF1), fun K => by simp only [nrm2, nrmL1_eq], by simp only [AV.ids, idsL1_nrm], fun {I w m cv} h => by obtain ⟨fs, cs, rfl, h1, h2⟩ := h; exact ⟨fs, cs, rfl, RVL1_nrm h1, RVL1_nrm h2⟩⟩
  | kb b => exact .inr ⟨.bool b, fun K => rfl, rfl, fun {I w m cv} h => h⟩
  | _ => exact .inr ⟨_, fun K => rfl, rfl, fun {I w m cv} h => h⟩
theorem nrmL2_cases : ∀ (l : List AV), (∀ K, ¬ nrmL2 l K) ∨ ∃ l', (∀ K, nrmL2 l K = K l') ∧ l'.flatMap AV.ids = l.flatMap AV.ids ∧ ∀ {I : Nat → Prop} {w : World} {m : M} {r : List Value}, l.length = r.length → (∀ i (h : i < l.length) (h' : i < r.length), RV I w m l[i] r[i]) → RVL2 I w m l' r
  | [] => .inr ⟨[], fun _ => rfl, rfl, fun {I w m r} hl _ => by cases r with | nil => trivial | cons => simp at hl⟩
  | v :: l => by
    rcases nrm2_cases v with h | ⟨v', h1, h0, h2⟩
    · exact .inl fun K hK => h _ hK
    · rcases nrmL2_cases l with h | ⟨l', h3, h00, h4⟩
      · exact .inl fun K hK => by simp only [nrmL2, h1] at hK; exact h _ hK
      · refine .inr ⟨v' :: l', fun K => by simp only [nrmL2, h1, h3], by simp only [List.flatMap_cons, h0, h00], fun {I w m r} hl h => ?_⟩
        cases r with
        | nil => simp at hl
        | cons c r => exact ⟨h2 (h 0 (by simp) (by simp)), h4 (by simpa using hl) fun i hi hi' => h (i + 1) (by simp; omega) (by simp; omega)⟩
/-- The things that a call is handed. -/
def ObjCan (nx : Nat) (ρ : List Nat) (o o' : Obj) : Prop := match o, o' with
  | .box l, .box l' => l'.map (ren0 (un ρ nx)) = l.map nrmF0 ∧ ∀ j ∈ idsL0 l', j < ρ.length
  | .box _, _ => False
  | _, .box _ => False
  | o, o' => o = o'
theorem ObjCan.mono {nx : Nat} {ρ ρ' : List Nat} {o o' : Obj} (h : ObjCan nx ρ o o') (k : Can ρ ρ') : ObjCan nx ρ' o o' := by
  cases o <;> cases o' <;> first | exact h | skip
  refine ⟨?_, fun j hj => Nat.lt_of_lt_of_le (h.2 j hj) k.len⟩
  rw [← h.1]; exact ren0L_congr fun j hj => k.un (h.2 j hj)
theorem canObj_eq (o : Obj) (ρ : List Nat) (nx : Nat) : ∃ o' ρ', (∀ K, canObj o ρ K = K o' ρ') ∧ Can ρ ρ' ∧ ObjCan nx ρ' o o' := by
  cases o with
  | box l =>
    obtain ⟨l', ρ', h1, h2, h3, h4⟩ := canL0_eq nx (l.map nrmF0) ρ
    exact ⟨.box l', ρ', fun K => by simp only [canObj, nrmL0_eq, h1], h2, h3, h4⟩
  | dead => exact ⟨.dead, ρ, fun _ => rfl, Can.refl _, rfl⟩
  | row fz t x => exact ⟨.row fz t x, ρ, fun _ => rfl, Can.refl _, rfl⟩
  | map q kt vt l => exact ⟨.map q kt vt l, ρ, fun _ => rfl, Can.refl _, rfl⟩
  | iter s p => exact ⟨.iter s p, ρ, fun _ => rfl, Can.refl _, rfl⟩
theorem canSt_cases (st : Store) (nx : Nat) : ∀ (n j : Nat) (ρ : List Nat), j ≤ ρ.length → (∀ K, ¬ canSt st n j ρ K) ∨ ∃ objs ρ', (∀ K, canSt st n j ρ K = K objs ρ') ∧ Can ρ ρ' ∧ j + objs.length = ρ'.length ∧
    ∀ k (h : k < objs.length) (h' : j + k < ρ'.length), ∃ o, st.get ρ'[j + k] = some o ∧ ObjCan nx ρ' o objs[k]
  | 0, _, _, _ => .inl fun K h => h
  | n + 1, j, ρ, hj => by
    rcases Nat.lt_or_ge j ρ.length with hlt | hge
    · have hd : ρ.drop j = ρ[j] :: ρ.drop (j + 1) := List.drop_eq_getElem_cons hlt
      cases hg : st.get ρ[j] with
      | none => exact .inl fun K h => by simp only [canSt, hd, hg] at h
      | some o =>
        obtain ⟨o', ρ1, h1, h2, h3⟩ := canObj_eq o ρ nx
        have := h2.len
        rcases canSt_cases st nx n (j + 1) ρ1 (by omega) with h | ⟨objs, ρ2, k1, k2, k3, k4⟩
        · exact .inl fun K hK => by simp only [canSt, hd, hg, h1] at hK; exact h _ hK
        · refine .inr ⟨o' :: objs, ρ2, fun K => by simp only [canSt, hd, hg, h1, k1], h2.trans k2, by simp; omega, fun k hk hk' => ?_⟩
          cases k with
          | zero =>
            refine ⟨o, ?_, h3.mono k2⟩
            have : ρ2[j]'(by omega) = ρ[j] := ((h2.trans k2).pre.getElem hlt).symm
            simp only [Nat.add_zero, this]; exact hg
          | succ k =>
            obtain ⟨o2, q1, q2⟩ := k4 k (by simpa using hk) (by omega)
            refine ⟨o2, ?_, q2⟩
            simp only [show j + (k + 1) = j + 1 + k by omega]; exact q1
    · have hd : ρ.drop j = [] := List.drop_of_length_le hge
      refine .inr ⟨[], ρ, fun K => by simp only [canSt, hd], Can.refl _, by simp; omega, fun k h => absurd h (by simp)⟩
end Go.Eng
