/- Structs are compared; texts are gone over. No condition. -/
import Derived.Test.YtoejpijobbcooaaDoorEOps1
import Derived.DeepKeys
import Derived.Laws.StructEq
namespace Go.Eng
set_option linter.unusedVariables false
set_option linter.unusedSimpArgs false
set_option maxRecDepth 10000
open Go.RowKit
def LeafV : Leaf → Value → Prop
  | .int k, v => ∃ n, v = .int k n ∧ inK k n
  | .bool, v => ∃ b, v = .bool b
  | .str, v => ∃ s : ByteArray, v = .string s ∧ s.size ≤ maxLen
def Fits : List Leaf → List Value → Prop
  | [], [] => True
  | k :: ks, v :: vs => LeafV k v ∧ Fits ks vs
  | _, _ => False
def litOf : Value → Lit
  | .int k n => .int k n
  | .bool b => .bool b
  | .string s => .string s.data.toList
  | _ => .nil
theorem Fits.length : ∀ {ks : List Leaf} {vs : List Value}, Fits ks vs → vs.length = ks.length
  | [], [], _ => rfl
  | k :: ks, v :: vs, h => by simp [Fits.length h.2]
  | [], _ :: _, h => h.elim
  | _ :: _, [], h => h.elim
theorem Fits.split : ∀ {ks ks' : List Leaf} {vs : List Value}, Fits (ks ++ ks') vs → Fits ks (vs.take ks.length) ∧ Fits ks' (vs.drop ks.length)
  | [], ks', vs, h => by simpa [Fits] using h
  | k :: ks, ks', v :: vs, h => by
    have := Fits.split (ks := ks) (ks' := ks') h.2
    exact ⟨⟨h.1, this.1⟩, this.2⟩
  | k :: ks, ks', [], h => h.elim
theorem lits_fields {P : Program} {D : Nat} {rec : TypeId → Option (List Leaf)} (hrec : ∀ t ks cs, rec t = some ks → Fits ks cs → P.keyLits D t cs = some (cs.map litOf)) (all : List Value) : ∀ (fs : List Field) (off : Nat) (ks : List Leaf), kindsF P.cellsOf rec fs off = some ks → Fits ks (all.drop off) →
    ∃ Ls, fs.mapM (fun f => P.keyLits D f.type ((all.drop f.offset).take (P.cellsOf f.type))) = some Ls ∧ Ls.flatten = (all.drop off).map litOf
  | [], off, ks, h, hf => by
    simp only [kindsF, Option.some.injEq] at h
    subst h
    have : all.drop off = [] := List.length_eq_zero_iff.1 hf.length
    exact ⟨[], rfl, by rw [this]; rfl⟩
  | f :: r, off, ks, h, hf => by
    simp only [kindsF] at h
    split at h
    · rename_i hc
      obtain ⟨h1, h2⟩ := hc
      cases hk : rec f.type with
      | none => rw [hk] at h; cases h
      | some ks1 =>
        rw [hk] at h
        simp only [Option.bind_some] at h
        split at h
        · rename_i hl
          simp only [Option.map_eq_some_iff] at h
          obtain ⟨ks2, h3, rfl⟩ := h
          obtain ⟨g1, g2⟩ := hf.split
          rw [List.drop_drop] at g2
          obtain ⟨Ls, e1, e2⟩ := lits_fields hrec all r (off + ks1.length) ks2 h3 g2
          have e3 := hrec _ _ _ hk g1
          refine ⟨((all.drop off).take ks1.length).map litOf :: Ls, ?_, ?_⟩
          · rw [List.mapM_cons, h1, ← hl, e3, e1]; rfl
          · rw [List.flatten_cons, e2, ← List.map_append]
            congr 1
            rw [← List.drop_drop, List.take_append_drop]
        · cases h
    · cases h
theorem lits_items {P : Program} {D : Nat} {e : TypeId} {ks : List Leaf} (hrec : ∀ cs, Fits ks cs → P.keyLits D e cs = some (cs.map litOf)) (all : List Value) : ∀ (n start : Nat), Fits (List.replicate n ks).flatten (all.drop (start * ks.length)) →
    ∃ Ls, (List.range' start n).mapM (fun i => P.keyLits D e ((all.drop (i * ks.length)).take ks.length)) = some Ls ∧ Ls.flatten = (all.drop (start * ks.length)).map litOf
  | 0, start, hf => by
    have : all.drop (start * ks.length) = [] := List.length_eq_zero_iff.1 hf.length
    exact ⟨[], rfl, by rw [this]; rfl⟩
  | n + 1, start, hf => by
    rw [List.replicate_succ, List.flatten_cons] at hf
    obtain ⟨g1, g2⟩ := hf.split
    rw [List.drop_drop, show start * ks.length + ks.length = (start + 1) * ks.length by rw [Nat.add_mul, Nat.one_mul]] at g2
    obtain ⟨Ls, e1, e2⟩ := lits_items hrec all n (start + 1) g2
    refine ⟨((all.drop (start * ks.length)).take ks.length).map litOf :: Ls, ?_, ?_⟩
    · rw [List.range'_succ, List.mapM_cons, hrec _ g1, e1]; rfl
    · rw [List.flatten_cons, e2, ← List.map_append]
      congr 1
      rw [show (start + 1) * ks.length = start * ks.length + ks.length by rw [Nat.add_mul, Nat.one_mul], ← List.drop_drop, List.take_append_drop]
theorem keyLits_of {P : Program} : ∀ (D : Nat) (t : TypeId) (ks : List Leaf) (cs : List Value), kindsAt P D t = some ks → Fits ks cs → P.keyLits D t cs = some (cs.map litOf)
  | 0, _, _, _, h, _ => by cases h
  | D + 1, t, ks, cs, h, hf => by
    unfold kindsAt at h
    unfold Program.keyLits
    split at h
    · rename_i hu
      cases h
      cases cs with
      | nil => exact hf.elim
      | cons v r =>
        obtain ⟨⟨b, rfl⟩, h2⟩ := hf
        cases r with
        | cons _ _ => exact (h2 : False).elim
        | nil => rw [hu]; rfl
    · rename_i k hu
      cases h
      cases cs with
      | nil => exact hf.elim
      | cons v r =>
        obtain ⟨⟨n, rfl, hn⟩, h2⟩ := hf
        cases r with
        | cons _ _ => exact (h2 : False).elim
        | nil =>
          rw [hu]
          have : (Lit.int k n).wf = true := by simp only [Lit.wf, Bool.and_eq_true, decide_eq_true_eq]; exact hn
          simp [this, litOf]
    · rename_i hu
      cases h
      cases cs with
      | nil => exact hf.elim
      | cons v r =>
        obtain ⟨⟨s, rfl, hs⟩, h2⟩ := hf
        cases r with
        | cons _ _ => exact (h2 : False).elim
        | nil => rw [hu]; simp [hs, litOf]
    · rename_i n e hu
      cases hk : kindsAt P D e with
      | none => rw [hk] at h; cases h
      | some ks1 =>
        rw [hk] at h
        simp only [Option.bind_some] at h
        split at h
        · rename_i hl
          cases h
          obtain ⟨Ls, e1, e2⟩ := lits_items (P := P) (D := D) (e := e) (fun cs hc => keyLits_of D e ks1 cs hk hc) cs n 0 (by simpa using hf)
          have hlen : cs.length = P.cellsOf t := by rw [hf.length, hl.2]; simp
          rw [hu]
          simp only [hlen, if_true]
          rw [← hl.1, List.range_eq_range', e1]
          simp only [Option.map_some, e2, Nat.zero_mul, List.drop_zero]
        · cases h
    · rename_i fs hu
      cases hk : kindsF P.cellsOf (kindsAt P D) fs.toList 0 with
      | none => rw [hk] at h; cases h
      | some ks1 =>
        rw [hk] at h
        simp only [Option.bind_some] at h
        split at h
        · rename_i hl
          cases h
          obtain ⟨Ls, e1, e2⟩ := lits_fields (P := P) (D := D) (fun t ks cs h hc => keyLits_of D t ks cs h hc) cs fs.toList 0 _ hk (by simpa using hf)
          have hlen : cs.length = P.cellsOf t := by rw [hf.length, hl]
          have hn : fs.all (·.name != "_") = true := by
            rw [Array.all_eq_true']
            have key : ∀ (l : List Field) (off : Nat) (ks : List Leaf), kindsF P.cellsOf (kindsAt P D) l off = some ks → ∀ f ∈ l, f.name ≠ "_" := fun l => by
              induction l with
              | nil => intro _ _ _ f hf; cases hf
              | cons g r ih =>
                intro off ks h f hf
                simp only [kindsF] at h
                split at h
                · rename_i hc
                  rcases List.mem_cons.1 hf with rfl | hf
                  · exact hc.2
                  · cases hk : kindsAt P D g.type with
                    | none => rw [hk] at h; cases h
                    | some k1 =>
                      rw [hk] at h
                      simp only [Option.bind_some] at h
                      split at h
                      · simp only [Option.map_eq_some_iff] at h
                        obtain ⟨k2, h3, _⟩ := h
                        exact ih _ _ h3 f hf
                      · cases h
                · cases h
            intro f hf
            simpa using key _ _ _ hk f (by simpa using hf)
          rw [hu]
          simp only [hlen, hn, true_and, if_true, and_self]
          rw [e1]
          simp only [Option.map_some, e2, List.drop_zero]
        · cases h
    · cases h
theorem kindsAt_len {P : Program} {d : Nat} {t : TypeId} {ks : List Leaf} (h : kindsAt P d t = some ks) (hw : isWide P t = true) : ks.length = P.cellsOf t := by
  cases d with
  | zero => cases h
  | succ d =>
    unfold kindsAt at h
    unfold isWide at hw
    split at h
    · rename_i hu; rw [hu] at hw; cases hw
    · rename_i hu; rw [hu] at hw; cases hw
    · rename_i hu; rw [hu] at hw; cases hw
    · cases hk : kindsAt P d _ with
      | none => rw [hk] at h; cases h
      | some k =>
        rw [hk] at h
        simp only [Option.bind_some] at h
        split at h
        · rename_i hl; cases h; rw [hl.2]; simp
        · cases h
    · cases hk : kindsF P.cellsOf (kindsAt P d) _ 0 with
      | none => rw [hk] at h; cases h
      | some k =>
        rw [hk] at h
        simp only [Option.bind_some] at h
        split at h
        · rename_i hl; cases h; exact hl
        · cases h
    · cases h
theorem bytesI_injL {s t : ByteArray} : bytesI s = bytesI t ↔ s.data.toList = t.data.toList := by
  constructor
  · intro h
    unfold bytesI at h
    exact (List.map_inj_right (fun a b e => UInt8.toNat_inj.1 (Int.ofNat.inj e))).1 h
  · intro h; unfold bytesI; rw [h]
theorem eqCK_cases : ∀ {ks : List Leaf} {l l' : List AV} {K : Bool → Prop}, eqCK ks l l' K → ∃ b, K b ∧ ∀ {I : Nat → Prop} {w : World} {m : M} {cs cs' : List Value}, RVL0 I w m l cs → RVL0 I w m l' cs' → Fits ks cs ∧ Fits ks cs' ∧ (b = true ↔ cs.map litOf = cs'.map litOf)
  | [], [], [], K, h => ⟨true, h, fun {I w m cs cs'} h1 h2 => by
    cases cs with
    | cons _ _ => exact h1.elim
    | nil => cases cs' with
      | cons _ _ => exact h2.elim
      | nil => exact ⟨trivial, trivial, by simp⟩⟩
  | .int q :: ks, v :: r, v' :: r', K, h => by
    cases v with
    | int k a => cases v' with
      | int k' b =>
        unfold eqCK at h
        split at h
        · rename_i e1 _
          split at h
          · rename_i e2 _
            subst e1; subst e2
            obtain ⟨t, hK, ht⟩ := eqCK_cases h
            refine ⟨_, hK, fun {I w m cs cs'} h1 h2 => ?_⟩
            cases cs with
            | nil => exact h1.elim
            | cons c cs => cases cs' with
              | nil => exact h2.elim
              | cons c' cs' =>
                obtain ⟨⟨rfl, n1⟩, h1⟩ := h1
                obtain ⟨⟨rfl, n2⟩, h2⟩ := h2
                obtain ⟨g1, g2, g3⟩ := ht h1 h2
                refine ⟨⟨⟨_, rfl, n1⟩, g1⟩, ⟨⟨_, rfl, n2⟩, g2⟩, ?_⟩
                simp only [List.map_cons, List.cons.injEq, Bool.and_eq_true, decide_eq_true_eq, g3, litOf, Lit.int.injEq, true_and]
          · exact h.elim
        · exact h.elim
      | _ => exact (h : False).elim
    | _ => exact (h : False).elim
  | .str :: ks, v :: r, v' :: r', K, h => by
    cases v with
    | str a => cases v' with
      | str b =>
        unfold eqCK at h
        obtain ⟨t, hK, ht⟩ := eqCK_cases h
        refine ⟨_, hK, fun {I w m cs cs'} h1 h2 => ?_⟩
        cases cs with
        | nil => exact h1.elim
        | cons c cs => cases cs' with
          | nil => exact h2.elim
          | cons c' cs' =>
            obtain ⟨⟨s, rfl, rfl, n1⟩, h1⟩ := h1
            obtain ⟨⟨s', rfl, rfl, n2⟩, h2⟩ := h2
            obtain ⟨g1, g2, g3⟩ := ht h1 h2
            refine ⟨⟨⟨_, rfl, n1⟩, g1⟩, ⟨⟨_, rfl, n2⟩, g2⟩, ?_⟩
            simp only [List.map_cons, List.cons.injEq, Bool.and_eq_true, decide_eq_true_eq, g3, litOf, Lit.string.injEq, bytesI_injL]
      | _ => exact (h : False).elim
    | _ => exact (h : False).elim
  | .bool :: ks, v :: r, v' :: r', K, h => by
    unfold eqCK at h
    split at h
    · rename_i a ea
      split at h
      · rename_i b eb
        obtain ⟨t, hK, ht⟩ := eqCK_cases h
        refine ⟨_, hK, fun {I w m cs cs'} h1 h2 => ?_⟩
        have tb : ∀ {v : AV} {a : Bool} {c : Value}, v.toB = some a → RV0 I w m v c → c = .bool a := fun {v a c} e h => by
          cases v <;> simp only [AV.toB, Option.some.injEq, reduceCtorEq] at e <;> subst e <;> exact h
        cases cs with
        | nil => exact h1.elim
        | cons c cs => cases cs' with
          | nil => exact h2.elim
          | cons c' cs' =>
            obtain ⟨h1a, h1⟩ := h1
            obtain ⟨h2a, h2⟩ := h2
            rw [tb ea h1a, tb eb h2a]
            obtain ⟨g1, g2, g3⟩ := ht h1 h2
            refine ⟨⟨⟨_, rfl⟩, g1⟩, ⟨⟨_, rfl⟩, g2⟩, ?_⟩
            simp only [List.map_cons, List.cons.injEq, Bool.and_eq_true, beq_iff_eq, g3, litOf, Lit.bool.injEq]
      · exact h.elim
    · exact h.elim
  | [], [], _ :: _, _, h => h.elim
  | [], _ :: _, _, _, h => h.elim
  | .int _ :: _, [], _, _, h => h.elim
  | .str :: _, [], _, _, h => h.elim
  | .bool :: _, [], _, _, h => h.elim
  | .bool :: _, _ :: _, [], _, h => h.elim
  | .int _ :: _, v :: _, [], _, h => by cases v <;> exact (h : False).elim
  | .str :: _, v :: _, [], _, h => by cases v <;> exact (h : False).elim
theorem eqs_run {P : Program} {w : World} {xt : TypeId} {ks : List Leaf} {cs cs' : Array Value} {b neg : Bool} {x y : Operand} (hk : P.keyTypeAt 8 xt = true) (hw : isWide P xt = true) (hks : kindsAt P 8 xt = some ks) (hg : P.eqGuardType P.depth xt = false)
    (h1 : Fits ks cs.toList) (h2 : Fits ks cs'.toList) (hb : b = true ↔ cs.toList.map litOf = cs'.toList.map litOf) :
    (do eqGuard (if neg then .neq else .eql) xt x y (.agg cs) (.agg cs'); binOp (if neg then .neq else .eql) xt (.agg cs) (.agg cs')).run P w = .ok (.bool (match neg with | true => !b | false => b)) w := by
  have hl := kindsAt_len hks hw
  have fm : ∀ {c : Array Value}, Fits ks c.toList → (Value.agg c).formed P xt = true := fun {c} h => by
    unfold isWide at hw
    have hs : c.size = P.cellsOf xt := by rw [← hl, ← h.length]; simp
    simp only [Value.formed]
    split at hw
    · rename_i e; rw [e]; simp [hs]
    · rename_i e; rw [e]; simp [hs]
    · cases hw
  obtain ⟨r, hr, hri⟩ := run_equalIn_deep (P := P) 9992 8 xt hk w 8 8 (.agg cs) (.agg cs') _ _ (fm h1) (fm h2) (keyLits_of 8 xt ks cs.toList hks h1) (keyLits_of 8 xt ks cs'.toList hks h2)
  have hrb : r = b := by
    cases r <;> cases b <;> first | rfl | (have := hri.1 rfl; have := hb.2 this; cases this) | (have := hb.1 rfl; have := hri.2 this; cases this)
  subst hrb
  have hr' : (Op.equalIn 10000 xt (.agg cs) (.agg cs')).run P w = .ok r w := hr
  cases neg
  · show (do eqGuard .eql xt x y (.agg cs) (.agg cs'); binOp .eql xt (.agg cs) (.agg cs') : Sem Value).run P w = _
    rw [Sem.run_bind, run_eqGuard_agg w .eql xt x y cs cs' hg]
    simp only [Result.andThen_ok]
    rw [run_eql_struct, hr']; rfl
  · show (do eqGuard .neq xt x y (.agg cs) (.agg cs'); binOp .neq xt (.agg cs) (.agg cs') : Sem Value).run P w = _
    rw [Sem.run_bind, run_eqGuard_agg w .neq xt x y cs cs' hg]
    simp only [Result.andThen_ok]
    rw [run_neq_struct, hr']; rfl
/-- Runes. -/
theorem runeL_eq (s : ByteArray) (i : Nat) : Utf8.decode s i = runeL (bytesI s) i := by
  have e : ∀ k, (s.get! (i + k)).toNat = ((bytesI s).getD (i + k) 0).toNat := fun k => by
    unfold bytesI
    rw [List.getD_eq_getElem?_getD, List.getElem?_map]
    show (s.data[i + k]!).toNat = _
    rw [getElem!_def, ← Array.getElem?_toList]
    cases s.data.toList[i + k]? <;> rfl
  have l : (bytesI s).length = s.size := bytesI_len s
  simp only [Utf8.decode, runeL, e, l]
theorem rune_le (s : List Int) (i : Nat) : (runeL s i).1 ≤ 1114111 := by
  have hv : ∀ c : Nat, Utf8.valid (c : Int) = true → c ≤ 1114111 := fun c h => by
    simp only [Utf8.valid, Bool.or_eq_true, Bool.and_eq_true, decide_eq_true_eq] at h; omega
  unfold runeL
  simp only []
  split
  · simp only []; omega
  · split
    · split
      · simp only []; omega
      · simp only [Utf8.runeError]; omega
    · split
      · split
        · rename_i h; simp only [Bool.and_eq_true] at h; exact hv _ h.2
        · simp only [Utf8.runeError]; omega
      · split
        · split
          · rename_i h; simp only [Bool.and_eq_true] at h; exact hv _ h.2
          · simp only [Utf8.runeError]; omega
        · simp only [Utf8.runeError]; omega
end Go.Eng
