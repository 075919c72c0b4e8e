/- Contracts of functions of the given program, told by plain Lean functions. No condition. -/
import Derived.Test.YtgljcfbcdniffaaDoorProg
import Derived.Test.YtgljcfbcdniffaaDoorESum
import Derived.KernelRfl
import Derived.Test.YtgljcfbcdniffaaDoorP8
import Derived.Test.YtgljcfbcdniffaaDoorN1
namespace Go.Eng
open Go.Proofs
set_option linter.unusedVariables false
set_option linter.unusedSimpArgs false
set_option maxRecDepth 100000
set_option maxHeartbeats 1000000
theorem encE_of {l : List PV} : encE l = 0 ∨ encE l = 10001 := by unfold encE; split; exact .inl rfl; exact .inr rfl
theorem pad16_eq {nm : List Int} (h : nm.length < 16) : pad16 nm = nm ++ List.replicate (16 - nm.length) 0 := by
  rcases nm with _ | ⟨a0, _ | ⟨a1, _ | ⟨a2, _ | ⟨a3, _ | ⟨a4, _ | ⟨a5, _ | ⟨a6, _ | ⟨a7, _ | ⟨a8, _ | ⟨a9, _ | ⟨a10, _ | ⟨a11, _ | ⟨a12, _ | ⟨a13, _ | ⟨a14, _ | ⟨a15, r⟩⟩⟩⟩⟩⟩⟩⟩⟩⟩⟩⟩⟩⟩⟩⟩
  all_goals first
    | rfl
    | (simp only [List.length_cons] at h; omega)
theorem buf_ok {x l : List Int} {room : Int} (h : (x.length : Int) ≤ room - l.length) : bufB x l room 0 = l ++ x ∧ bufE x l room 0 = 0 := by
  have hb : bufOk x l room 0 = true := by unfold bufOk; rw [decide_eq_true h]; rfl
  exact ⟨by unfold bufB; rw [if_pos hb], by unfold bufE; rw [if_pos rfl, if_pos h]⟩
theorem buf_ne {x l : List Int} {room e : Int} (h : e ≠ 0) : bufE x l room e = e := by unfold bufE; rw [if_neg h]
theorem row_ok {w xs l : List Int} {room : Int} (hk : putK w xs = true) (h : ((putB w xs).length : Int) ≤ room - l.length) : rowB w xs l room 0 = l ++ putB w xs ∧ rowE w xs l room 0 = 0 := by
  unfold rowB rowE; rw [if_pos hk, if_pos hk]; exact buf_ok h
theorem row_ne {w xs l : List Int} {room e : Int} (h : e ≠ 0) : rowE w xs l room e = e := by
  unfold rowE; split
  · exact buf_ne h
  · exact if_neg h
theorem row_bad {w xs l : List Int} {room : Int} (hk : putK w xs = false) : rowE w xs l room 0 = 10001 := by
  unfold rowE; rw [hk]; rfl
def n64 (x : Int) : Prop := 0 ≤ x ∧ x ≤ 18446744073709551615
def pwf (p : PV) : Prop := (∀ x ∈ [p.1, p.2.1], n64 x) ∧ ∀ x ∈ n8 p.2.2.2.1, n64 x
theorem pwf_of {l : List PV} (h : Ty.wf (.sl (.cons (.int .u64) (.cons (.int .u64) (.cons .str (.cons (.cons (.int .u64) (.cons (.int .u64) (.cons (.int .u64) (.cons (.int .u64) (.cons (.int .u64) (.cons (.int .u64) (.cons (.int .u64) (.cons (.int .u64) .nil)))))))) .nil))))) l) : ∀ p ∈ l, pwf p := fun p hp => by
  obtain ⟨h1, h2, _, ⟨a0, a1, a2, a3, a4, a5, a6, a7, _⟩, _⟩ := h.1 p hp
  have e : ∀ x : Int, inK .u64 x → n64 x := fun x h => by unfold inK at h; rw [min_u64, max_u64] at h; exact h
  refine ⟨fun x hx => ?_, fun x hx => ?_⟩
  · simp only [List.mem_cons, List.not_mem_nil, or_false] at hx
    rcases hx with rfl | rfl
    · exact e _ h1
    · exact e _ h2
  · unfold n8 at hx
    simp only [List.mem_cons, List.not_mem_nil, or_false] at hx
    rcases hx with rfl | rfl | rfl | rfl | rfl | rfl | rfl | rfl
    · exact e _ a0
    · exact e _ a1
    · exact e _ a2
    · exact e _ a3
    · exact e _ a4
    · exact e _ a5
    · exact e _ a6
    · exact e _ a7
/-- One port's parts. -/
theorem pbF_some {p : PV} {x : List Int} (h : pbF p = some x) (hw : pwf p) : putK pw1 [p.1, p.2.1] = true ∧ putK pw2 (n8 p.2.2.2.1) = true ∧ poOk p.1 p.2.2.1 = true ∧ p.2.2.1.length < 16 ∧ (putB pw1 [p.1, p.2.1]).length = 16 ∧ (putB pw2 (n8 p.2.2.2.1)).length = 32 ∧ x = putB pw1 [p.1, p.2.1] ++ (p.2.2.1 ++ List.replicate (16 - p.2.2.1.length) 0) ++ putB pw2 (n8 p.2.2.2.1) := by
  unfold pbF at h
  split at h
  · rename_i hk
    cases h
    have hn : p.2.2.1.length < 16 := by
      have h3 := hk.2.2
      unfold poOk at h3
      simp only [Bool.and_eq_true] at h3
      exact (nameF_t.1 h3.2).1
    refine ⟨hk.1, hk.2.1, hk.2.2, hn, ?_, ?_, rfl⟩
    · exact (putF_getF [] hw.1 hk.1).2.trans (by decide)
    · exact (putF_getF [] hw.2 hk.2.1).2.trans (by decide)
  · cases h
theorem pt_ok {p : PV} {x l : List Int} (h : pbF p = some x) (hw : pwf p) (hl : l.length + 64 ≤ 65472) : x.length = 64 ∧ ptB p.1 p.2.1 p.2.2.1 (n8 p.2.2.2.1) l 65472 0 = l ++ x ∧ ptE p.1 p.2.1 p.2.2.1 (n8 p.2.2.2.1) l 65472 0 = 0 := by
  obtain ⟨k1, k2, k3, k4, k5, k6, rfl⟩ := pbF_some h hw
  have hp := pad16_eq k4
  have hpl : (pad16 p.2.2.1).length = 16 := rfl
  obtain ⟨a1, a2⟩ := row_ok (l := l) (room := 65472) k1 (by omega)
  obtain ⟨b1, b2⟩ := buf_ok (x := pad16 p.2.2.1) (l := l ++ putB pw1 [p.1, p.2.1]) (room := 65472) (by rw [hpl, List.length_append]; omega)
  obtain ⟨c1, c2⟩ := row_ok (l := l ++ putB pw1 [p.1, p.2.1] ++ pad16 p.2.2.1) (room := 65472) k2 (by rw [List.length_append, List.length_append, hpl]; omega)
  refine ⟨?_, ?_, ?_⟩
  · simp only [List.length_append, List.length_replicate]; omega
  · unfold ptB poB; rw [if_pos k3, a1, a2, b1, b2, c1, hp]; simp only [List.append_assoc]
  · unfold ptE poE; rw [if_pos k3, a1, a2, b1, b2, c2]
theorem pt_ne {p : PV} {l : List Int} {e : Int} (h : e ≠ 0) : ptE p.1 p.2.1 p.2.2.1 (n8 p.2.2.2.1) l 65472 e = e := by
  unfold ptE; split
  · unfold poE; rw [row_ne h, buf_ne h, row_ne h]
  · exact if_neg h
theorem pt_no {p : PV} {l : List Int} (h : pbF p = none) (hw : pwf p) (hl : l.length + 64 ≤ 65472) : ptE p.1 p.2.1 p.2.2.1 (n8 p.2.2.2.1) l 65472 0 ≠ 0 := by
  have hne : (10001 : Int) ≠ 0 := by decide
  cases k3 : poOk p.1 p.2.2.1 with
  | false => unfold ptE; rw [k3, if_neg (by decide)]; decide
  | true =>
    unfold ptE; rw [if_pos k3]; unfold poE
    cases k1 : putK pw1 [p.1, p.2.1] with
    | false => rw [row_bad k1, buf_ne hne, row_ne hne]; exact hne
    | true =>
      have k5 : (putB pw1 [p.1, p.2.1]).length = 16 := (putF_getF [] hw.1 k1).2.trans (by decide)
      have hpl : (pad16 p.2.2.1).length = 16 := rfl
      obtain ⟨a1, a2⟩ := row_ok (l := l) (room := 65472) k1 (by omega)
      obtain ⟨b1, b2⟩ := buf_ok (x := pad16 p.2.2.1) (l := l ++ putB pw1 [p.1, p.2.1]) (room := 65472) (by rw [hpl, List.length_append]; omega)
      cases k2 : putK pw2 (n8 p.2.2.2.1) with
      | false => rw [a1, a2, b1, b2, row_bad k2]; exact hne
      | true => unfold pbF at h; rw [if_pos ⟨k1, k2, k3⟩] at h; cases h
theorem pts_ne : ∀ (l : List PV) (b : List Int) (e : Int), e ≠ 0 → (ptsS l (b, e)).2 = e
  | [], b, e, h => rfl
  | p :: l, b, e, h => by
    show (ptsS l (_, ptE p.1 p.2.1 p.2.2.1 (n8 p.2.2.2.1) b 65472 e)).2 = e
    rw [pt_ne h]; exact pts_ne l _ e h
theorem pts_eq : ∀ (l : List PV) (b : List Int), (∀ p ∈ l, pwf p) → b.length + 64 * l.length ≤ 65472 →
    (∀ r, pbA l b = some r → ptsS l (b, 0) = (r, 0) ∧ r.length = b.length + 64 * l.length) ∧ (pbA l b = none → (ptsS l (b, 0)).2 ≠ 0)
  | [], b, _, _ => ⟨fun r h => by simp only [pbA, Option.some.injEq] at h; subst h; exact ⟨rfl, rfl⟩, fun h => by cases h⟩
  | p :: l, b, hw, hl => by
    rw [List.length_cons] at hl
    have hwp := hw p (by simp)
    have hs : ptsS (p :: l) (b, 0) = ptsS l (ptB p.1 p.2.1 p.2.2.1 (n8 p.2.2.2.1) b 65472 0, ptE p.1 p.2.1 p.2.2.1 (n8 p.2.2.2.1) b 65472 0) := rfl
    cases hx : pbF p with
    | none =>
      have h0 := pt_no hx hwp (l := b) (by omega)
      refine ⟨fun r h => ?_, fun _ => ?_⟩
      · simp only [pbA, hx] at h; cases h
      · rw [hs, pts_ne _ _ _ h0]; exact h0
    | some x =>
      obtain ⟨h1, h2, h3⟩ := pt_ok hx hwp (l := b) (by omega)
      have ih := pts_eq l (b ++ x) (fun q hq => hw q (by simp [hq])) (by rw [List.length_append]; omega)
      have hA : pbA (p :: l) b = pbA l (b ++ x) := by simp only [pbA, hx]
      rw [hs, h2, h3, hA]
      refine ⟨fun r h => ?_, ih.2⟩
      obtain ⟨i1, i2⟩ := ih.1 r h
      refine ⟨i1, ?_⟩
      rw [i2, List.length_append, List.length_cons]; omega
/-- The program and the document's answer write alike. -/
theorem enc_eq {l : List PV} (hw : ∀ p ∈ l, pwf p) (hl : l.length ≤ 1000) : encL l = rencL l ∧ encE l = rencE l ∧ (encL l).length ≤ 65472 := by
  have h := pts_eq l [] hw (by simp; omega)
  unfold encL encE rencL rencE
  cases hA : pbA l [] with
  | none =>
    have h0 := h.2 hA
    rw [if_neg h0, if_neg h0]; exact ⟨rfl, rfl, by simp⟩
  | some r =>
    obtain ⟨h1, h2⟩ := h.1 r hA
    rw [h1]
    refine ⟨rfl, rfl, ?_⟩
    show r.length ≤ _
    rw [h2]; simp; omega
theorem enc_some {l : List PV} (hw : ∀ p ∈ l, pwf p) (hl : l.length ≤ 1000) (h : encE l = 0) : pbA l [] = some (encL l) ∧ (encL l).length = 64 * l.length := by
  have hp := pts_eq l [] hw (by simp; omega)
  cases hA : pbA l [] with
  | none =>
    have h0 := hp.2 hA
    unfold encE at h; rw [if_neg h0] at h; cases h
  | some r =>
    obtain ⟨h1, h2⟩ := hp.1 r hA
    have : encL l = r := by unfold encL; rw [h1]; rfl
    rw [this]; exact ⟨rfl, by rw [h2]; simp⟩
theorem enc_of {l : List PV} {r : List Int} (hw : ∀ p ∈ l, pwf p) (hl : l.length ≤ 1000) (h : pbA l [] = some r) : encE l = 0 ∧ encL l = r := by
  have hp := (pts_eq l [] hw (by simp; omega)).1 r h
  unfold encE encL; rw [hp.1]; exact ⟨rfl, rfl⟩
end Go.Eng
