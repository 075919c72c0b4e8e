/- Parts of the proof: U4, U5, U6, U7, U8. No condition. -/
import Derived.Test.YtcgkajpmcbnmkaaGreatDoorProg
import Derived.Test.YtcgkajpmcbnmkaaGreatDoorWA10
import Derived.KernelRfl
import Derived.Test.YtcgkajpmcbnmkaaGreatDoorWA21
namespace Go.Eng
open Go.Proofs
set_option linter.unusedVariables false
set_option linter.unusedSimpArgs false
set_option maxRecDepth 100000
set_option maxHeartbeats 1000000
theorem idx0_app {nm zs : List Int} (h : ∀ c ∈ nm, c ≠ 0) (i : Int) : idxA 0 (nm ++ 0 :: zs) i = i + nm.length := by
  induction nm generalizing i with
  | nil => show (if (0 : Int) = 0 then i else _) = _; rw [if_pos rfl]; simp
  | cons a l ih =>
    show (if a = 0 then i else idxA 0 (l ++ 0 :: zs) (i + 1)) = _
    rw [if_neg (h a (by simp)), ih (fun c hc => h c (by simp [hc])), List.length_cons]; omega
theorem rx_one {n : Int} {t : List Int} (h : txF n t = true) : rxO (t ++ List.replicate (n - t.length).toNat 0) = true ∧ (t ++ List.replicate (n - t.length).toNat 0).take (zi (t ++ List.replicate (n - t.length).toNat 0)) = t ∧ ((t ++ List.replicate (n - t.length).toNat (0 : Int)).length : Int) = n := by
  have hlt := txF_lt h
  have hlen : ((t ++ List.replicate (n - t.length).toNat (0 : Int)).length : Int) = n := by rw [List.length_append, List.length_replicate]; omega
  have hne : ∀ c ∈ t, c ≠ 0 := fun c hc e => by
    unfold txF at h
    simp only [Bool.and_eq_true] at h
    have := okc_t.1 (List.all_eq_true.1 h.2 c hc); omega
  obtain ⟨k, hk⟩ : ∃ k, (n - t.length).toNat = k + 1 := ⟨(n - t.length).toNat - 1, by omega⟩
  have hz : zi (t ++ List.replicate (n - t.length).toNat 0) = t.length := by
    rw [hk, List.replicate_succ]
    have hi := idx0_app (nm := t) (zs := List.replicate k 0) hne 0
    unfold zi; rw [hi, if_pos (by omega)]; omega
  refine ⟨?_, by rw [hz, List.take_left], hlen⟩
  unfold rxO; rw [hz, List.take_left, List.drop_left, zeroL_rep, hlen, h]; rfl
theorem one_rx {s : List Int} (h : rxO s = true) : txF s.length (s.take (zi s)) = true ∧ s.take (zi s) ++ List.replicate ((s.length : Int) - (s.take (zi s)).length).toNat 0 = s := by
  unfold rxO at h
  simp only [Bool.and_eq_true] at h
  refine ⟨h.2, ?_⟩
  have hd := zeroL_eq h.1
  have hz := zi_le s
  rw [List.length_drop] at hd
  rw [List.length_take, Nat.min_eq_left hz, show ((s.length : Int) - (zi s : Int)).toNat = s.length - zi s by omega, ← hd, List.take_append_drop]
theorem rx_tx : ∀ (t : List (List Int)) (n : List Int) (o : List (List Int)) (rest : List Int), okTs t n = true → t.length = n.length → rxF n o (txB t n ++ rest) = some (o ++ t)
  | [], [], o, rest, _, _ => by unfold rxF; simp
  | [], _ :: _, _, _, _, h => by cases h
  | _ :: _, [], _, _, _, h => by cases h
  | t :: ts, n :: ns, o, rest, h, hl => by
    unfold okTs at h
    simp only [Bool.and_eq_true] at h
    obtain ⟨h1, h2, h3⟩ := rx_one h.1
    have e : txB (t :: ts) (n :: ns) ++ rest = (t ++ List.replicate (n - t.length).toNat 0) ++ (txB ts ns ++ rest) := by
      show (t ++ (List.replicate (n - t.length).toNat 0 ++ txB ts ns)) ++ rest = _
      simp only [List.append_assoc]
    have hn : n.toNat = (t ++ List.replicate (n - t.length).toNat (0 : Int)).length := by omega
    unfold rxF
    rw [e, hn, List.take_left, List.drop_left, if_pos h1, h2, rx_tx ts ns _ _ h.2 (by simpa using hl)]
    simp
theorem tx_rx : ∀ (n : List Int) (o : List (List Int)) (y : List Int) (r : List (List Int)), (∀ k ∈ n, 0 ≤ k) → 0 ≤ n.sum ∧ n.sum ≤ y.length → rxF n o y = some r → ∃ t, r = o ++ t ∧ t.length = n.length ∧ okTs t n = true ∧ txB t n = y.take n.sum.toNat
  | [], o, y, r, _, _, h => by
    unfold rxF at h; cases h
    exact ⟨[], by simp, rfl, rfl, by unfold txB; simp⟩
  | n :: ns, o, y, r, hn, hs, h => by
    have hn0 : 0 ≤ n := hn n (List.mem_cons_self ..)
    have hns : ∀ k ∈ ns, 0 ≤ k := fun k hk => hn k (List.mem_cons_of_mem _ hk)
    have hsn : 0 ≤ ns.sum := by
      clear hs h hn
      induction ns with
      | nil => simp
      | cons a l ih => rw [List.sum_cons]; have := ih (fun x hx => hns x (List.mem_cons_of_mem _ hx)); have := hns a (List.mem_cons_self ..); omega
    rw [List.sum_cons] at hs ⊢
    unfold rxF at h
    split at h
    · rename_i hx
      have hlen : ((y.take n.toNat).length : Int) = n := by rw [List.length_take]; omega
      obtain ⟨h1, h2⟩ := one_rx hx
      rw [hlen] at h1 h2
      obtain ⟨t, t1, t2, t3, t4⟩ := tx_rx ns _ _ r hns ⟨hsn, by rw [List.length_drop]; omega⟩ h
      refine ⟨(y.take n.toNat).take (zi (y.take n.toNat)) :: t, by rw [t1]; simp, by simp [t2], by unfold okTs; rw [h1, t3]; rfl, ?_⟩
      unfold txB
      rw [← List.append_assoc, h2, t4, show (n + ns.sum).toNat = n.toNat + ns.sum.toNat by omega, List.take_add]
    · cases h
theorem pr_pt {x : Bool} {w : List Int} {p : VPa} (rest : List Int) (hok : okP w x p = true) (hx : x = true → w = []) (hn : ∀ q ∈ p.1, 0 ≤ q ∧ q ≤ 18446744073709551615) : prT x w (ptY w x p ++ rest) = some p ∧ ((ptY w x p).length : Int) = szT x w := by
  have hok2 := hok
  unfold okP at hok2
  simp only [Bool.and_eq_true, decide_eq_true_eq] at hok2
  obtain ⟨hg, ho⟩ := hok2
  have hg2 := hg
  unfold gdP at hg2
  simp only [Bool.and_eq_true] at hg2
  obtain ⟨hk, h5⟩ := hg2
  cases x with
  | false =>
    have e : ptY w false p = putB w p.1 := by unfold ptY; simp
    obtain ⟨f1, f2⟩ := putF_getF rest hn hk
    have hz := sizeW_le w
    rw [e]
    refine ⟨?_, by rw [f2]; show ((sizeW w).toNat : Int) = sizeW w; omega⟩
    have k0 : getK w (putB w p.1 ++ rest) = 0 := congrArg Prod.snd f1
    have l0 : getL w (putB w p.1 ++ rest) = p.1 := congrArg Prod.fst f1
    unfold prT; rw [if_neg (by decide), if_pos k0, l0]
    exact congrArg some ho
  | true =>
    obtain rfl := hx rfl
    obtain ⟨f1, f2⟩ := putF_getF rest hn hk
    have p0 : p.1 = [] := (congrArg Prod.fst f1).symm
    have b0 : putB [] p.1 = [] := List.eq_nil_of_length_eq_zero (by rw [f2]; decide)
    have e : ptY [] true p = txB p.2.1 zs := by unfold ptY; rw [b0, if_pos rfl]; rfl
    simp only [Bool.not_true, Bool.false_or, Bool.and_eq_true, decide_eq_true_eq] at h5
    rw [e]
    refine ⟨?_, by rw [txB_len _ _ h5.2 h5.1]; decide⟩
    unfold prT; rw [if_pos rfl, rx_tx p.2.1 zs [] rest h5.2 h5.1]
    dsimp only
    rw [List.nil_append]
    have e2 : (([], p.2.1, [], [], [], [], [], [], [], [], ()) : VPa) = onlyP true p := by unfold onlyP; rw [p0, if_pos rfl]
    exact congrArg some (e2.trans ho)
theorem pt_pr {x : Bool} {w y : List Int} {p : VPa} (hb : ∀ z ∈ y, 0 ≤ z ∧ z ≤ 255) (hx : x = true → w = []) (hs : szT x w ≤ y.length) (h : prT x w y = some p) : okP w x p = true ∧ ptY w x p = y.take (szT x w).toNat := by
  unfold prT at h
  cases x with
  | false =>
    rw [if_neg (by decide)] at h
    split at h
    · rename_i hk
      cases h
      obtain ⟨p1, p2, p3⟩ := getF_putF hb (show getF w y = (getL w y, 0) from Prod.ext rfl hk)
      refine ⟨?_, by unfold ptY; rw [if_neg (by decide), List.append_nil]; exact p2⟩
      unfold okP; rw [gdP_f p1, Bool.true_and]; exact decide_eq_true rfl
    · cases h
  | true =>
    obtain rfl := hx rfl
    rw [if_pos rfl] at h
    cases hr : rxF zs [] y with
    | none => rw [hr] at h; cases h
    | some r =>
      rw [hr] at h
      cases h
      have hsz : szT true [] = 1056 := rfl
      rw [hsz] at hs ⊢
      have hsum : zs.sum = 1056 := by decide
      obtain ⟨t, t1, t2, t3, t4⟩ := tx_rx zs [] y r (by decide) (by rw [hsum]; exact ⟨by decide, hs⟩) hr
      rw [List.nil_append] at t1
      subst t1
      rw [hsum] at t4
      refine ⟨?_, by unfold ptY; rw [if_pos rfl]; exact t4⟩
      unfold okP
      rw [gdP_t (show putK [] [] = true by decide) t2 t3, Bool.true_and]; exact decide_eq_true rfl
theorem rb_run {x : Bool} {w : List Int} (hx : x = true → w = []) (h0 : 0 < szT x w) : ∀ (ps : List VPa) (o out : List Int), (∀ p ∈ ps, ∀ q ∈ p.1, 0 ≤ q ∧ q ≤ 18446744073709551615) → rbS w x ps o = some out → ∃ f, out = o ++ f ∧ (f.length : Int) = ps.length * szT x w ∧ dT x w f = some ps
  | [], o, out, _, h => by
    unfold rbS at h; cases h
    exact ⟨[], by simp, by simp, dT_nil rfl⟩
  | p :: r, o, out, hn, h => by
    unfold rbS at h
    split at h
    · rename_i hok
      obtain ⟨f, f1, f2, f3⟩ := rb_run hx h0 r _ _ (fun q hq => hn q (List.mem_cons_of_mem _ hq)) h
      obtain ⟨g1, g2⟩ := pr_pt f hok hx (hn p (List.mem_cons_self ..))
      refine ⟨ptY w x p ++ f, by rw [f1, List.append_assoc], ?_, ?_⟩
      · rw [List.length_append, List.length_cons, Int.natCast_add, Int.natCast_add, Int.add_mul, f2, g2]; simp; omega
      · have hd : (ptY w x p ++ f).drop (szT x w).toNat = f := by rw [show (szT x w).toNat = (ptY w x p).length by omega, List.drop_left]
        rw [dT_some (by rw [List.length_append]; omega) h0 g1, hd, f3]
    · cases h
theorem dt_run {x : Bool} {w : List Int} (hx : x = true → w = []) (h0 : 0 ≤ szT x w) : ∀ (m : Nat) (y : List Int) (l : List VPa) (o : List Int), y.length = m → (∀ z ∈ y, 0 ≤ z ∧ z ≤ 255) → (∃ c : Nat, (y.length : Int) = c * szT x w) → dT x w y = some l → rbS w x l o = some (o ++ y) ∧ (y.length : Int) = l.length * szT x w := by
  intro m
  induction m using Nat.strongRecOn with
  | ind m ih =>
    intro y l o hm hb hc h
    by_cases hy : y.length = 0
    · rw [dT_nil hy] at h; cases h
      have : y = [] := List.eq_nil_of_length_eq_zero hy
      subst this
      exact ⟨by unfold rbS; simp, by simp⟩
    · obtain ⟨c, hc⟩ := hc
      obtain ⟨z1, z2, z3⟩ := big_of (c := c) h0 hc (by omega)
      cases hp : prT x w y with
      | none => rw [dT_none hy z1 hp] at h; cases h
      | some p =>
        rw [dT_some hy z1 hp] at h
        cases hd : dT x w (y.drop (szT x w).toNat) with
        | none => rw [hd] at h; cases h
        | some l2 =>
          rw [hd] at h; cases h
          obtain ⟨p1, p2⟩ := pt_pr hb hx z2 hp
          have hdl : ((y.drop (szT x w).toNat).length : Int) = y.length - szT x w := by rw [List.length_drop]; omega
          obtain ⟨i1, i2⟩ := ih (y.drop (szT x w).toNat).length (by omega) _ l2 (o ++ ptY w x p) rfl (fun z hz => hb z (List.mem_of_mem_drop hz)) (by rw [hdl]; exact z3) hd
          refine ⟨?_, ?_⟩
          · unfold rbS; rw [if_pos p1, i1, p2, List.append_assoc, List.take_append_drop]
          · rw [List.length_cons, Int.natCast_add, Int.add_mul, ← i2, hdl]; simp
theorem tM_pos {r : Bool} {k : Int} (h : 1 ≤ tM r k) : 0 < szT (tX r k) (tW r k) := by
  cases r
  · have : k = 4 ∨ k = 6 ∨ k = 9 ∨ k = 10 ∨ k = 5 := by
      revert h; unfold tM asM; rw [if_neg (by decide)]; repeat' split
      all_goals (intro h; first | omega | (exact absurd h (by decide)))
    rcases this with rfl | rfl | rfl | rfl | rfl <;> decide
  · have : k = 0 ∨ k = 2 ∨ k = 3 ∨ k = 4 ∨ k = 5 ∨ k = 8 ∨ k = 11 := by
      revert h; unfold tM anM; rw [if_pos rfl]; repeat' split
      all_goals (intro h; first | omega | (exact absurd h (by decide)))
    rcases this with rfl | rfl | rfl | rfl | rfl | rfl | rfl <;> decide
theorem szT_nn (x : Bool) (w : List Int) : 0 ≤ szT x w := by unfold szT; split <;> first | decide | exact (sizeW_le w).1
theorem wr_rd {r : Bool} {k : Int} {ps : List VPa} (hn : ∀ p ∈ ps, ∀ q ∈ p.1, 0 ≤ q ∧ q ≤ 18446744073709551615) (h : (rbR r k ps).2 = 0) : rdR r k (rbR r k ps).1 = (ps, 0) ∧ tK r k = true := by
  unfold rbR at h ⊢
  split at h
  · cases h
  · rename_i hc
    rw [if_neg hc]
    cases hr : rbS (tW r k) (tX r k) ps [] with
    | none => rw [hr] at h; cases h
    | some out =>
      rw [hr] at h
      dsimp only at h ⊢
      split at h
      · cases h
      · rename_i hl
        rw [if_neg hl]
        have t0 : 0 ≤ tM r k := by
          rcases Int.lt_or_le (tM r k) 0 with c | c
          · exact absurd (.inl c) hc
          · exact c
        have hK : tK r k = true := decide_eq_true t0
        have hlen : tM r k < 2 → (ps.length : Int) = tM r k := fun c => Decidable.of_not_not fun e => hc (.inr ⟨c, e⟩)
        have hm := tM_rng (r := r) (k := k)
        have key : (out.length : Int) = ps.length * szT (tX r k) (tW r k) ∧ dT (tX r k) (tW r k) out = some ps := by
          by_cases c : 1 ≤ tM r k
          · obtain ⟨f, f1, f2, f3⟩ := rb_run (fun e => (tX_one e).2) (tM_pos c) ps [] out hn hr
            rw [List.nil_append] at f1; subst f1
            exact ⟨f2, f3⟩
          · have : ps = [] := List.eq_nil_of_length_eq_zero (by have := hlen (by omega); omega)
            subst this
            unfold rbS at hr; cases hr
            exact ⟨by simp, dT_nil rfl⟩
        have hb : badL r k out = false := by
          unfold badL
          simp only [Bool.or_eq_false_iff, Bool.and_eq_false_iff, decide_eq_false_iff_not]
          refine ⟨⟨by omega, ?_⟩, ?_⟩
          · by_cases c : tM r k < 2
            · exact .inr fun z => z (by rw [key.1, hlen c])
            · exact .inl c
          · exact .inr fun z => z (by rw [key.1, Int.mul_tmod_left])
        refine ⟨?_, hK⟩
        unfold rdR; rw [if_neg (by rw [hK]; decide), if_neg (by rw [hb]; decide), key.2]
theorem rd_wr {r : Bool} {k : Int} {b : List Int} (hb : ∀ z ∈ b, 0 ≤ z ∧ z ≤ 255) : ((rdR r k b).2 ≠ 0 → (rdR r k b).1 = []) ∧ ((rdR r k b).2 = 0 → rbR r k (rdR r k b).1 = (b, 0)) := by
  unfold rdR
  cases hK : tK r k with
  | false => rw [if_pos rfl]; exact ⟨fun _ => rfl, fun h => by cases h⟩
  | true =>
    rw [if_neg (by decide)]
    cases hB : badL r k b with
    | true => rw [if_pos rfl]; exact ⟨fun _ => rfl, fun h => by cases h⟩
    | false =>
      rw [if_neg (by decide)]
      cases hd : dT (tX r k) (tW r k) b with
      | none => exact ⟨fun _ => rfl, fun h => by cases h⟩
      | some l =>
        refine ⟨fun h => absurd rfl h, fun _ => ?_⟩
        dsimp only
        have t0 : 0 ≤ tM r k := of_decide_eq_true hK
        have hm := tM_rng (r := r) (k := k)
        unfold badL at hB
        simp only [Bool.or_eq_false_iff, Bool.and_eq_false_iff, decide_eq_false_iff_not] at hB
        obtain ⟨⟨q1, q2⟩, q3⟩ := hB
        have e2 : tM r k < 2 → (b.length : Int) = tM r k * szT (tX r k) (tW r k) := fun c => by
          rcases q2 with q2 | q2
          · exact absurd c q2
          · exact Decidable.of_not_not q2
        have hS := szT_nn (tX r k) (tW r k)
        have hc : ∃ c : Nat, (b.length : Int) = c * szT (tX r k) (tW r k) := by
          by_cases c : tM r k < 2
          · exact ⟨(tM r k).toNat, by rw [Int.toNat_of_nonneg t0]; exact e2 c⟩
          · have q6 : (b.length : Int).tmod (szT (tX r k) (tW r k)) = 0 := by
              rcases q3 with q3 | q3
              · exact absurd (show tM r k = 2 by omega) q3
              · exact Decidable.of_not_not q3
            refine ⟨((b.length : Int).tdiv (szT (tX r k) (tW r k))).toNat, ?_⟩
            have q := Int.mul_tdiv_add_tmod (b.length : Int) (szT (tX r k) (tW r k))
            rw [q6, Int.add_zero, Int.mul_comm] at q
            rw [Int.toNat_of_nonneg (Int.tdiv_nonneg (by omega) hS)]; exact q.symm
        obtain ⟨d1, d2⟩ := dt_run (fun e => (tX_one e).2) hS b.length b l [] rfl hb hc hd
        have hl : tM r k < 2 → (l.length : Int) = tM r k := fun c => by
          have e3 := e2 c
          by_cases c1 : tM r k = 0
          · rw [c1, Int.zero_mul] at e3
            rw [dT_nil (by omega)] at hd; cases hd
            rw [c1]; rfl
          · have hp := tM_pos (r := r) (k := k) (by omega)
            exact Int.eq_of_mul_eq_mul_right (by omega) (d2.symm.trans e3)
        unfold rbR
        rw [if_neg (fun h => h.elim (fun h => by omega) fun h => h.2 (hl h.1)), d1, List.nil_append]
        dsimp only
        rw [if_neg q1]
end Go.Eng
namespace Go.Eng
open Go.Proofs
set_option linter.unusedVariables false
set_option linter.unusedSimpArgs false
set_option maxRecDepth 100000
set_option maxHeartbeats 1000000
theorem s27a : bdR false 5 [([1, 7], [], [], [], [], [], [], [], [], [], ())] = ([0, 0, 0, 1, 0, 0, 0, 7], 0) := by rw [bdR_rbR]; decide +kernel
theorem s27b : rdR false 5 [0, 0, 0, 1, 0, 0, 0, 7] = ([([1, 7], [], [], [], [], [], [], [], [], [], ())], 0) := by
  have h := wr_rd (r := false) (k := 5) (ps := [([1, 7], [], [], [], [], [], [], [], [], [], ())]) (by decide) (by rw [← bdR_rbR, s27a])
  rw [← bdR_rbR, s27a] at h; exact h.1
theorem s27c : ∃ x, bdR true 0 [([], [[97], [], [98], [99], []], [], [], [], [], [], [], [], [], ())] = (x, 0) ∧ x.length = 1056 ∧ x.getD 0 0 = 97 := by
  rw [bdR_rbR]; exact ⟨_, rfl, by decide +kernel, by decide +kernel⟩
def ir_l27_sure : IR :=
(.seq
(.keep []
(.reg [oD 0 (.mov cF)]))
(.seq
(.keep []
(.reg [oD 10 (.sliceAll (.int .u64) 2 [(0, 1, (.c (.int .u64 1))), (1, 1, (.c (.int .u64 7)))]),
oD 11 (.build [.imm (.int .u64) [], .imm .str [], .imm Y1 [], .imm Y3 [], .imm Y4 [], .imm Y5 [], .imm (.sl (.int .u64)) [], .imm Y8 [], .imm YA [], .imm (.int .u8) []] [(0, 1, (.t 10))]),
oD 12 (.sliceAll YC 1 [(0, 10, (.t 11))]),
oC 13 8 [cF, (cI 5), .t 12],
oM 9 13,
oX 14 9 0,
oX 15 9 1,
oM 1 14,
oM 2 15]))
(.seq
(.keep [1, 2]
(.reg [oM 17 1,
oC 18 13 [cF, (cI 5), .t 17],
oM 16 18,
oX 19 16 0,
oX 20 16 1,
oM 3 19,
oM 4 20]))
(.seq
(.keep [1, 2, 3, 4]
(.reg [oD 22 (.sliceAll .str 5 [(0, 1, (.c (.str [97]))), (1, 1, (.c (.str []))), (2, 1, (.c (.str [98]))), (3, 1, (.c (.str [99]))), (4, 1, (.c (.str [])))]),
oD 23 (.build [.imm (.int .u64) [], .imm .str [], .imm Y1 [], .imm Y3 [], .imm Y4 [], .imm Y5 [], .imm (.sl (.int .u64)) [], .imm Y8 [], .imm YA [], .imm (.int .u8) []] [(1, 1, (.t 22))]),
oD 24 (.sliceAll YC 1 [(0, 10, (.t 23))]),
oC 25 8 [cT, (cI 0), .t 24],
oM 21 25,
oX 26 21 0,
oX 27 21 1,
oM 5 26,
oM 6 27]))
(.seq
(.keep [1, 2, 3, 4, 5, 6]
(.reg [oD 29 (.mkrow (.int .u8) 1 (0 : Int) (cI 1055) (cI 1055)),
oC 30 13 [cT, (cI 0), .t 29],
oM 28 30,
oX 31 28 0,
oX 32 28 1,
oM 7 31,
oM 8 32]))
(.seq
(.keep [1, 2, 3, 4, 5, 6, 8]
(.reg [oM 33 2,
oB 34 .eql (.t 33) (cI 0),
oM 35 34,
oT 35 36 (.mov (.t 1)),
oT 35 37 (.sliceAll (.int .u8) 8 [(0, 1, (.c (.int .u8 0))), (1, 1, (.c (.int .u8 0))), (2, 1, (.c (.int .u8 0))), (3, 1, (.c (.int .u8 1))), (4, 1, (.c (.int .u8 0))), (5, 1, (.c (.int .u8 0))), (6, 1, (.c (.int .u8 0))), (7, 1, (.c (.int .u8 7)))]),
oT 35 38 (.call false (.f 12) [(.t 36), (.t 37)]),
oP 39 35 (.t 38) cF,
oM 40 39,
oT 40 41 (.mov (.t 4)),
oT 40 42 (.bin .eql (.t 41) (cI 0)),
oP 43 40 (.t 42) cF,
oM 44 43,
oT 44 45 (.mov (.t 3)),
oT 44 46 (.len (.t 45)),
oT 44 47 (.bin .eql (.t 46) (cI 1)),
oP 48 44 (.t 47) cF,
oM 49 48,
oT 49 50 (.mov (.t 3)),
oT 49 51 (.indexSl 10 (.t 50) (cI 0)),
oT 49 52 (.fieldAddr 0 (.t 51)),
oT 49 53 (.load none (.t 52)),
oT 49 54 (.sliceAll (.int .u64) 2 [(0, 1, (.c (.int .u64 1))), (1, 1, (.c (.int .u64 7)))]),
oT 49 55 (.call false (.f 17) [(.t 53), (.t 54)]),
oP 56 49 (.t 55) cF,
oM 57 56,
oT 57 58 (.mov (.t 6)),
oT 57 59 (.bin .eql (.t 58) (cI 0)),
oP 60 57 (.t 59) cF,
oM 61 60,
oT 61 62 (.mov (.t 5)),
oT 61 63 (.len (.t 62)),
oT 61 64 (.bin .eql (.t 63) (cI 1056)),
oP 65 61 (.t 64) cF,
oM 66 65,
oT 66 67 (.mov (.t 5)),
oT 66 68 (.indexSl 1 (.t 67) (cI 0)),
oT 66 69 (.load none (.t 68)),
oT 66 70 (.bin .eql (.t 69) (.c (.int .u8 97))),
oP 71 66 (.t 70) cF,
oM 72 71,
oT 72 73 (.mov (.t 8)),
oT 72 74 (.bin .eql (.t 73) (cI 263)),
oP 75 72 (.t 74) cF,
oM 76 75,
oT 76 77 (.call false (.f 10) [cT, (cI 11)]),
oP 78 76 (.t 77) cF,
oM 79 78,
oT 79 80 (.call false (.f 10) [cT, (cI 7)]),
oT 79 81 (.un .not (.t 80)),
oP 82 79 (.t 81) cF,
oM 0 82]))
.ret))))))
def rd_l27_sure : List RD := [.tmp 0 true none]
theorem ok_l27_sure : fnOk Tryz.prog Tryz.f7 ir_l27_sure rd_l27_sure = true := by kernel_rfl
def S_l27_sure : List AV → List Obj → Option (Prop × AV)
  | [], [] => some ((True, .bool true))
  | _, _ => none
theorem snd_l27_sure : SoundS Tryz.prog 7 (RoF S_l27_sure).sum := by
  refine ro_fn Tryz.func7 ok_l27_sure (env_cons (s := RoF S_tally_Body) snd_tally_Body (env_cons (s := RoF S_tally_Read) snd_tally_Read (env_cons (s := RoF S_r01_Bytes) snd_r01_Bytes (env_cons (s := RoF S_r01_Nums) snd_r01_Nums (env_cons (s := RoF S_tally_Has) snd_tally_Has (env_nil _)))))) fun args objs p v e => ?_
  unfold S_l27_sure at e
  split at e
  · cases e
    refine ⟨rfl, fun hw ho hp => ?_⟩
    clear hw ho
    obtain ⟨x, e3, e4, e5⟩ := s27c
    repeat' (intro t ht; first | (cases t <;> first | (cases ht; done) | ((try simp only [bn_s] at ht); (try simp only [nd_s] at ht); (try (exfalso; first | contradiction | omega)))) | (refine castG_go ht ?_; clear ht) | (refine ht ?_ ?_ <;> clear ht) | (refine ht.1 ?_ ?_ <;> clear ht) | (refine ht ?_; clear ht))
    all_goals first
      | exact True.intro
      | ((try simp only [nd_s, bn_s, mm_s] at *); omega)
      | (exfalso; simp only [s27a, s27b] at *; contradiction)
      | (exfalso; simp only [s27a, s27b] at *; simp at *; done)
      | exact ⟨congrArg AV.bool (show (!tK true 7) = true by decide), rfl⟩
      | trace_state
  · cases e
end Go.Eng
namespace Go.Eng
open Go.Proofs
set_option linter.unusedVariables false
set_option linter.unusedSimpArgs false
set_option maxRecDepth 100000
set_option maxHeartbeats 1000000
def ir_l27_TallyWrites : IR :=
(.seq
(.keep [0, 1, 2]
(.reg [oD 6 (.mov cF)]))
(.seq
(.seq
(.reg [oM 11 2,
oC 12 6 [.t 11],
oD 13 (.un .not (.t 12))])
(.cond (.t 13)
(.seq
(.reg [oC 14 7 [],
oM 6 14])
.ret)
.skip))
(.seq
(.keep [0, 1, 2]
(.reg [oM 16 0,
oM 17 1,
oM 18 2,
oC 19 8 [.t 16, .t 17, .t 18],
oM 15 19,
oX 20 15 0,
oX 21 15 1,
oM 7 20,
oM 8 21]))
(.seq
(.keep [0, 1, 2, 7, 8]
(.reg [oM 23 0,
oM 24 1,
oM 25 2,
oC 26 9 [.t 23, .t 24, .t 25],
oM 22 26,
oX 27 22 0,
oX 28 22 1,
oM 9 27,
oM 10 28]))
(.seq
(.keep [0, 1, 7, 8, 9, 10]
(.reg [oM 29 0,
oM 30 1,
oC 31 10 [.t 29, .t 30],
oM 32 0,
oM 33 1,
oC 34 11 [.t 32, .t 33],
oD 35 (.eqb false (.t 31) (.t 34)),
oM 36 35,
oT 36 37 (.mov (.t 7)),
oT 36 38 (.mov (.t 9)),
oT 36 39 (.call false (.f 12) [(.t 37), (.t 38)]),
oP 40 36 (.t 39) cF,
oM 41 40,
oT 41 42 (.mov (.t 8)),
oT 41 43 (.mov (.t 10)),
oT 41 44 (.bin .eql (.t 42) (.t 43)),
oP 45 41 (.t 44) cF,
oM 46 45,
oT 46 47 (.call false (.f 7) []),
oP 48 46 (.t 47) cF,
oM 6 48]))
.ret)))))
def rd_l27_TallyWrites : List RD := [.tmp 6 true none]
theorem ok_l27_TallyWrites : fnOk Tryz.prog Tryz.f3 ir_l27_TallyWrites rd_l27_TallyWrites = true := by kernel_rfl
def S_l27_TallyWrites : List AV → List Obj → Option (Prop × AV)
  | [.bool rr, .int .i64 k, .imm ty0 l], [] => castO ty0 YC l fun l => some ((True, .bool true))
  | _, _ => none
theorem snd_l27_TallyWrites : SoundS Tryz.prog 3 (RoF S_l27_TallyWrites).sum := by
  refine ro_fn Tryz.func3 ok_l27_TallyWrites (env_cons (s := RoF S_l27_few) snd_l27_few (env_cons (s := RoF S_l27_sure) snd_l27_sure (env_cons (s := RoF S_tally_Body) snd_tally_Body (env_cons (s := RoF S_r27_Body) snd_r27_Body (env_cons (s := RoF S_tally_Has) snd_tally_Has (env_cons (s := RoF S_r27_Has) snd_r27_Has (env_cons (s := RoF S_r01_Bytes) snd_r01_Bytes (env_nil _)))))))) fun args objs p v e => ?_
  unfold S_l27_TallyWrites at e
  split at e
  · rename_i rr k ty0 l
    obtain rfl := castO_ty e
    replace e := castO_go e
    cases e
    refine ⟨rfl, fun hw ho hp => ?_⟩
    change List VPa at l
    clear hw ho
    have hbr := bdR_rbR rr k l
    cases hf : fewPs l with
    | false =>
      repeat' (intro t ht; first | (cases t <;> first | (cases ht; done) | ((try simp only [bn_s] at ht); (try simp only [nd_s] at ht); (try (exfalso; first | contradiction | omega)))) | (refine castG_go ht ?_; clear ht) | (refine ht ?_ ?_ <;> clear ht) | (refine ht.1 ?_ ?_ <;> clear ht) | (refine ht ?_; clear ht))
      all_goals first
        | exact True.intro
        | exact ⟨rfl, rfl⟩
        | (exfalso; simp_all; done)
        | trace_state
    | true =>
      have h12 : l.length ≤ 12 := by
        unfold fewPs at hf
        simp only [Bool.and_eq_true, decide_eq_true_eq] at hf
        exact hf.2
      repeat' (intro t ht; first | (cases t <;> first | (cases ht; done) | ((try simp only [bn_s] at ht); (try simp only [nd_s] at ht); (try (exfalso; first | contradiction | omega)))) | (refine castG_go ht ?_; clear ht) | (refine ht ?_ ?_ <;> clear ht) | (refine ht.1 ?_ ?_ <;> clear ht) | (refine ht ?_; clear ht))
      all_goals first
        | exact True.intro
        | exact h12
        | exact ⟨rfl, rfl⟩
        | (exfalso; simp_all; done)
        | trace_state
  · cases e
end Go.Eng
namespace Go.Eng
open Go.Proofs
set_option linter.unusedVariables false
set_option linter.unusedSimpArgs false
set_option maxRecDepth 100000
set_option maxHeartbeats 1000000
def ir_l27_TallyReads : IR :=
(.seq
(.keep [0, 1, 2]
(.reg [oD 6 (.mov cF)]))
(.seq
(.seq
(.reg [oM 11 2,
oE 12 11,
oB 13 .gtr (.t 12) (cI 3000)])
(.cond (.t 13)
(.seq
(.reg [oC 14 7 [],
oM 6 14])
.ret)
.skip))
(.seq
(.keep [0, 1, 2]
(.reg [oM 16 0,
oM 17 1,
oM 18 2,
oC 19 13 [.t 16, .t 17, .t 18],
oM 15 19,
oX 20 15 0,
oX 21 15 1,
oM 7 20,
oM 8 21]))
(.seq
(.keep [0, 1, 2, 7, 8]
(.reg [oM 23 0,
oM 24 1,
oM 25 2,
oC 26 14 [.t 23, .t 24, .t 25],
oM 22 26,
oX 27 22 0,
oX 28 22 1,
oM 9 27,
oM 10 28]))
(.seq
(.keep [7, 8, 9, 10]
(.reg [oM 29 7,
oM 30 9,
oC 31 15 [.t 29, .t 30],
oM 32 31,
oT 32 33 (.mov (.t 8)),
oT 32 34 (.mov (.t 10)),
oT 32 35 (.bin .eql (.t 33) (.t 34)),
oP 36 32 (.t 35) cF,
oM 37 36,
oT 37 38 (.call false (.f 7) []),
oP 39 37 (.t 38) cF,
oM 6 39]))
.ret)))))
def rd_l27_TallyReads : List RD := [.tmp 6 true none]
theorem ok_l27_TallyReads : fnOk Tryz.prog Tryz.f4 ir_l27_TallyReads rd_l27_TallyReads = true := by kernel_rfl
def S_l27_TallyReads : List AV → List Obj → Option (Prop × AV)
  | [.bool rr, .int .i64 k, .imm (.int .u8) b], [] => some ((True, .bool true))
  | _, _ => none
theorem snd_l27_TallyReads : SoundS Tryz.prog 4 (RoF S_l27_TallyReads).sum := by
  refine ro_fn Tryz.func4 ok_l27_TallyReads (env_cons (s := RoF S_l27_sure) snd_l27_sure (env_cons (s := RoF S_tally_Read) snd_tally_Read (env_cons (s := RoF S_r27_Read) snd_r27_Read (env_cons (s := RoF S_l27_same) snd_l27_same (env_nil _))))) fun args objs p v e => ?_
  unfold S_l27_TallyReads at e
  split at e
  · rename_i rr k b
    cases e
    refine ⟨rfl, fun hw ho hp => ?_⟩
    change List Int at b
    clear hw ho
    repeat' (intro t ht; first | (cases t <;> first | (cases ht; done) | ((try simp only [bn_s] at ht); (try simp only [nd_s] at ht); (try (exfalso; first | contradiction | omega)))) | (refine castG_go ht ?_; clear ht) | (refine ht ?_ ?_ <;> clear ht) | (refine ht.1 ?_ ?_ <;> clear ht) | (refine ht ?_; clear ht))
    all_goals first
      | exact True.intro
      | exact ⟨rfl, rfl⟩
      | (exfalso; simp_all; done)
      | trace_state
  · cases e
end Go.Eng
namespace Go.Eng
open Go.Proofs
set_option linter.unusedVariables false
set_option linter.unusedSimpArgs false
set_option maxRecDepth 100000
set_option maxHeartbeats 1000000
def ir_l27_TallyBack : IR :=
(.seq
(.keep [0, 1, 2]
(.reg [oD 3 (.boxv (.t 0)),
oD 6 (.mov cF)]))
(.seq
(.seq
(.keep [1, 2, 3]
(.reg [oM 15 1,
oC 16 6 [.t 15],
oD 17 (.un .not (.t 16)),
oM 18 17,
oF 18 19 (.mov (.t 2)),
oF 18 20 (.len (.t 19)),
oF 18 21 (.bin .gtr (.t 20) (cI 3000)),
oP 22 18 cT (.t 21)]))
(.cond (.t 22)
(.seq
(.keep []
(.reg [oC 23 7 [],
oM 6 23]))
.ret)
.skip))
(.seq
(.seq
(.keep [1, 2, 3]
(.reg [oA 25 0 3,
oL 26 25,
oA 27 1 3,
oL 28 27,
oM 29 1,
oC 30 8 [.t 26, .t 28, .t 29],
oM 24 30,
oX 31 24 0,
oX 32 24 1,
oM 7 31,
oM 8 32]))
(.seq
(.keep [1, 2, 3, 7, 8]
(.reg [oM 33 8,
oB 34 .eql (.t 33) (cI 0)]))
(.cond (.t 34)
(.seq
(.keep [1, 2, 3, 7]
(.reg [oA 36 0 3,
oL 37 36,
oA 38 1 3,
oL 39 38,
oM 40 7,
oC 41 13 [.t 37, .t 39, .t 40],
oM 35 41,
oX 42 35 0,
oX 43 35 1,
oM 9 42,
oM 10 43]))
(.seq
(.keep [1, 2, 3, 9, 10]
(.reg [oM 44 10,
oB 45 .neq (.t 44) (cI 0),
oM 46 45,
oF 46 47 (.mov (.t 1)),
oF 46 48 (.mov (.t 9)),
oF 46 49 (.call false (.f 15) [(.t 47), (.t 48)]),
oF 46 50 (.un .not (.t 49)),
oP 51 46 cT (.t 50),
oM 52 51,
oF 52 53 (.fieldAddr 0 (.t 3)),
oF 52 54 (.load none (.t 53)),
oF 52 55 (.fieldAddr 1 (.t 3)),
oF 52 56 (.load none (.t 55)),
oF 52 57 (.call false (.f 10) [(.t 54), (.t 56)]),
oF 52 58 (.un .not (.t 57)),
oP 59 52 cT (.t 58)]))
(.cond (.t 59)
(.seq
(.keep []
(.reg [oD 6 (.mov cF)]))
.ret)
.skip)))
.skip)))
(.seq
(.keep [2, 3]
(.reg [oA 61 0 3,
oL 62 61,
oA 63 1 3,
oL 64 63,
oM 65 2,
oC 66 13 [.t 62, .t 64, .t 65],
oM 60 66,
oX 67 60 0,
oX 68 60 1,
oM 11 67,
oM 12 68]))
(.seq
(.seq
(.keep [2, 3, 11, 12]
(.reg [oM 69 12,
oB 70 .neq (.t 69) (cI 0)]))
(.cond (.t 70)
(.seq
(.keep [11]
(.reg [oM 71 11,
oE 72 71,
oB 73 .eql (.t 72) (cI 0),
oM 74 73,
oT 74 75 (.call false (.f 7) []),
oP 76 74 (.t 75) cF,
oM 6 76]))
.ret)
.skip))
(.seq
(.keep [2, 3, 11]
(.reg [oA 78 0 3,
oL 79 78,
oA 80 1 3,
oL 81 80,
oM 82 11,
oC 83 8 [.t 79, .t 81, .t 82],
oM 77 83,
oX 84 77 0,
oX 85 77 1,
oM 13 84,
oM 14 85]))
(.seq
(.keep [2, 13, 14]
(.reg [oM 86 14,
oB 87 .eql (.t 86) (cI 0),
oM 88 87,
oT 88 89 (.mov (.t 13)),
oT 88 90 (.mov (.t 2)),
oT 88 91 (.call false (.f 12) [(.t 89), (.t 90)]),
oP 92 88 (.t 91) cF,
oM 93 92,
oT 93 94 (.call false (.f 7) []),
oP 95 93 (.t 94) cF,
oM 6 95]))
.ret)))))))
def rd_l27_TallyBack : List RD := [.tmp 6 true none]
theorem ok_l27_TallyBack : fnOk Tryz.prog Tryz.f5 ir_l27_TallyBack rd_l27_TallyBack = true := by kernel_rfl
def S_l27_TallyBack : List AV → List Obj → Option (Prop × AV)
  | [.agg [.bool rr, .int .i64 k], .imm ty0 l, .imm (.int .u8) b], [] => castO ty0 YC l fun l => some ((True, .bool true))
  | _, _ => none
theorem snd_l27_TallyBack : SoundS Tryz.prog 5 (RoF S_l27_TallyBack).sum := by
  refine ro_fn Tryz.func5 ok_l27_TallyBack (env_cons (s := RoF S_l27_few) snd_l27_few (env_cons (s := RoF S_l27_sure) snd_l27_sure (env_cons (s := RoF S_tally_Body) snd_tally_Body (env_cons (s := RoF S_tally_Read) snd_tally_Read (env_cons (s := RoF S_l27_same) snd_l27_same (env_cons (s := RoF S_tally_Has) snd_tally_Has (env_cons (s := RoF S_r01_Bytes) snd_r01_Bytes (env_nil _)))))))) fun args objs p v e => ?_
  unfold S_l27_TallyBack at e
  split at e
  · rename_i rr k ty0 l b
    obtain rfl := castO_ty e
    replace e := castO_go e
    cases e
    refine ⟨rfl, fun hw ho hp => ?_⟩
    change List Int at b
    change List VPa at l
    have hpn : ∀ p ∈ l, ∀ q ∈ p.1, 0 ≤ q ∧ q ≤ 18446744073709551615 := fun p hp q hq => ((hw (.imm YC l) (by simp)).1 p hp).1.1 q hq
    have hbn : ∀ z ∈ (b : List Int), 0 ≤ z ∧ z ≤ 255 := fun z hz => (hw (.imm (.int .u8) b) (by simp)).1 z hz
    clear hw ho
    have hbr := fun l => bdR_rbR rr k l
    have hL1 : (bdR rr k l).2 = 0 → rdR rr k (bdR rr k l).1 = (l, 0) ∧ tK rr k = true := fun h => by rw [hbr] at h ⊢; exact wr_rd hpn h
    obtain ⟨hL2, hL3⟩ := rd_wr (r := rr) (k := k) hbn
    have hL4 : (rdR rr k b).2 = 0 → bdR rr k (rdR rr k b).1 = (b, 0) := fun h => by rw [hbr]; exact hL3 h
    clear hbr hL3
    repeat' (intro t ht; first | (cases t <;> first | (cases ht; done) | ((try simp only [bn_s] at ht); (try simp only [nd_s] at ht); (try (exfalso; first | contradiction | omega)))) | (refine castG_go ht ?_; clear ht) | (refine ht ?_ ?_ <;> clear ht) | (refine ht.1 ?_ ?_ <;> clear ht) | (refine ht ?_; clear ht))
    all_goals first
      | exact True.intro
      | exact ⟨rfl, rfl⟩
      | (exfalso; have g1 := hL1 (by assumption); simp only [g1.1, g1.2] at *; contradiction)
      | (exfalso; have g1 := hL4 (by assumption); simp only [g1] at *; contradiction)
      | (exfalso; have g1 := hL2 (by assumption); simp only [g1] at *; contradiction)
      | trace_state
  · cases e
end Go.Eng
