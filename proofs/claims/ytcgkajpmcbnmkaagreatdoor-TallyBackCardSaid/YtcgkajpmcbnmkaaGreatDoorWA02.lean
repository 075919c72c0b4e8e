/- Parts of the proof: EEqs. No condition. -/
import Derived.Test.YtcgkajpmcbnmkaaGreatDoorWA01
import Derived.ChangeKeysEq
import Derived.DeepKeys
import Derived.Laws.StructEq
namespace Go.Eng
set_option linter.unusedVariables false
set_option linter.unusedSimpArgs false
open Go.RowKit
def inKB (k : IntKind) (n : Int) : Bool := decide (k.min ≤ n) && decide (n ≤ k.max)
theorem inK_of {k : IntKind} {n : Int} (h : inKB k n = true) : inK k n := by
  simp only [inKB, Bool.and_eq_true, decide_eq_true_eq] at h; exact h
theorem wrap_inK (k : IntKind) (n : Int) : inK k (k.wrap n) := by
  cases k <;> simp [inK, IntKind.wrap, IntKind.min, IntKind.max, IntKind.signed, IntKind.bits] <;> (try split) <;> omega
theorem wrap_id {k : IntKind} {n : Int} (h : inK k n) : k.wrap n = n := by
  cases k <;> simp [inK, IntKind.wrap, IntKind.min, IntKind.max, IntKind.signed, IntKind.bits] at h ⊢ <;> (try split) <;> omega
theorem ari_cases {k : IntKind} {n : Int} {K : Int → Prop} (h : ari k n K) : K (k.wrap n) := by
  refine h _ ⟨fun h1 h2 => ?_, fun h => h⟩
  rw [wrap_id h1]; exact h2
theorem ints2_cases {x y : AV} {K : IntKind → Int → Int → Prop} (h : ints2 x y K) : ∃ k a b, x = .int k a ∧ y = .int k b ∧ K k a b := by
  unfold ints2 at h
  split at h
  · split at h
    · rename_i hk _; subst hk; exact ⟨_, _, _, rfl, rfl, h⟩
    · exact h.elim
  · exact h.elim
theorem castK_cases {t' t : Ty} {x : List t'.den} {K : List t.den → Prop} (h : castK t' t x K) : ∃ e : t' = t, K (e ▸ x) := by
  exact h _ ⟨fun e k => ⟨e, k⟩⟩
theorem castK_of {t : Ty} {x : List t.den} {K : List t.den → Prop} (h : K x) : castK t t x K := fun _ k => castG_go k h
theorem ofK_iff : ∀ {t : Ty} {l : List AV} {K : t.den → List AV → Prop}, t.ofK l K ↔ ∃ x r, t.ofCells l = some (x, r) ∧ K x r := fun {t} => by
  induction t with
  | cons a b iha ihb =>
    intro l K
    unfold Ty.ofK Ty.ofCells
    rw [iha]
    constructor
    · rintro ⟨x, r, h1, h2⟩
      obtain ⟨y, r', h3, h4⟩ := ihb.1 h2
      exact ⟨(x, y), r', by simp only [h1, h3], h4⟩
    · rintro ⟨x, r, h1, h2⟩
      split at h1
      · rename_i x' r' e1
        split at h1
        · rename_i y' r2 e2
          cases h1
          exact ⟨x', r', e1, ihb.2 ⟨y', r, e2, h2⟩⟩
        · cases h1
      · cases h1
  | int k =>
    intro l K
    cases l with
    | nil => exact ⟨fun h => False.elim h, fun ⟨_, _, e, _⟩ => by cases e⟩
    | cons v r =>
      cases v with
      | int k' n =>
        unfold Ty.ofK Ty.ofCells
        cases decEq k k' with
        | isTrue => exact ⟨fun h => ⟨n, r, rfl, h⟩, fun ⟨x, r, e, h⟩ => by cases e; exact h⟩
        | isFalse => exact ⟨fun h => False.elim h, fun ⟨_, _, e, _⟩ => by cases e⟩
      | _ => exact ⟨fun h => False.elim h, fun ⟨_, _, e, _⟩ => by cases e⟩
  | bool =>
    intro l K
    cases l with
    | nil => exact ⟨fun h => False.elim h, fun ⟨_, _, e, _⟩ => by cases e⟩
    | cons v r =>
      cases v with
      | bool b => exact ⟨fun h => ⟨b, r, rfl, h⟩, fun ⟨x, r, e, h⟩ => by cases e; exact h⟩
      | kb b => exact ⟨fun h => ⟨b, r, rfl, h⟩, fun ⟨x, r, e, h⟩ => by cases e; exact h⟩
      | _ => exact ⟨fun h => False.elim h, fun ⟨_, _, e, _⟩ => by cases e⟩
  | str =>
    intro l K
    cases l with
    | nil => exact ⟨fun h => False.elim h, fun ⟨_, _, e, _⟩ => by cases e⟩
    | cons v r =>
      cases v with
      | str b => exact ⟨fun h => ⟨b, r, rfl, h⟩, fun ⟨x, r, e, h⟩ => by cases e; exact h⟩
      | _ => exact ⟨fun h => False.elim h, fun ⟨_, _, e, _⟩ => by cases e⟩
  | nil => intro l K; unfold Ty.ofK Ty.ofCells; exact ⟨fun h => ⟨(), l, rfl, h⟩, fun ⟨x, r, e, h⟩ => by cases e; exact h⟩
  | sl t _ =>
    intro l K
    cases l with
    | nil => exact ⟨fun h => False.elim h, fun ⟨_, _, e, _⟩ => by cases e⟩
    | cons v r =>
      cases v with
      | nils => exact ⟨fun h => ⟨[], r, rfl, h⟩, fun ⟨x, r, e, h⟩ => by cases e; exact h⟩
      | imm t' x =>
        unfold Ty.ofK Ty.ofCells
        constructor
        · intro h
          obtain ⟨rfl, h⟩ := castK_cases h
          exact ⟨x, r, by split <;> first | rfl | (rename_i hd _; exact absurd rfl hd), h⟩
        · rintro ⟨y, r', e, h⟩
          split at e
          · rename_i hd _
            subst hd
            cases e
            exact castK_of h
          · cases e
      | _ => exact ⟨fun h => False.elim h, fun ⟨_, _, e, _⟩ => by cases e⟩
theorem oneQ_cases {t : Ty} {l : List AV} {K : t.den → Prop} (h : t.oneQ l K) : ∃ x, t.one l = some x ∧ K x := by
  unfold Ty.oneQ at h
  obtain ⟨x, r, h1, h2⟩ := ofK_iff.1 h
  cases r with
  | nil => exact ⟨x, by unfold Ty.one; rw [h1], h2⟩
  | cons => exact h2.elim
theorem allK_iff {t : Ty} : ∀ {n : Nat} {l : List AV} {K : List t.den → Prop}, t.allK n l K ↔ ∃ x, t.all n l = some x ∧ K x
  | 0, [], K => by simp [Ty.allK, Ty.all]
  | 0, _ :: _, K => by simp [Ty.allK, Ty.all]
  | n + 1, l, K => by
    unfold Ty.allK Ty.all
    rw [ofK_iff]
    constructor
    · rintro ⟨x, r, h1, h2⟩
      obtain ⟨y, h3, h4⟩ := allK_iff.1 h2
      exact ⟨x :: y, by simp only [h1, h3], h4⟩
    · rintro ⟨x, h1, h2⟩
      split at h1
      · rename_i x' r' e1
        split at h1
        · rename_i y' e2
          cases h1
          exact ⟨x', r', e1, allK_iff.2 ⟨y', e2, h2⟩⟩
        · cases h1
      · cases h1
def constOk : Value → AV → Bool
  | .int k n, .int k' n' => k == k' && n == n' && inKB k n
  | .bool b, .kb b' => b == b'
  | .bool b, .bool b' => b == b'
  | .string s, .str l => bytesI s == l && decide (s.size ≤ maxLen)
  | .slice none 0 0, .imm _ [] => true
  | .slice none 0 0, .nils => true
  | .pointer none, .nilp => true
  | .map none, .nilm => true
  | .nilFunc, .undef => true
  | _, _ => false
def opdOk : Operand → Opd → Bool
  | .tmp i, .t j => i == j
  | .const v, .c a => constOk v a
  | .func f, .f i => f == i
  | _, _ => false
def opdsOk : List Operand → List Opd → Bool
  | [], [] => true
  | x :: r, y :: l => opdOk x y && opdsOk r l
  | _, _ => false
def optOk : Option Operand → Option Opd → Bool
  | none, none => true
  | some x, some y => opdOk x y
  | _, _ => false
def sizeIs (P : Program) (t : TypeId) (n : Nat) : Bool := match P.info? t with | some i => i.size == n | none => false
def bytesIs (P : Program) (t : TypeId) (n : Nat) : Bool := match P.info? t with | some i => i.bytes == n | none => false
theorem sizeIs_of {P : Program} {t : TypeId} {n : Nat} (h : sizeIs P t n = true) : ∃ i, P.info? t = some i ∧ i.size = n := by
  unfold sizeIs at h; split at h
  · rename_i i hi; exact ⟨i, hi, by simpa using h⟩
  · cases h
theorem bytesIs_of {P : Program} {t : TypeId} {n : Nat} (h : bytesIs P t n = true) : ∃ i, P.info? t = some i ∧ i.bytes = n := by
  unfold bytesIs at h; split at h
  · rename_i i hi; exact ⟨i, hi, by simpa using h⟩
  · cases h
def aggB : TypeDesc → Bool | .struct _ => true | .array _ _ => true | _ => false
def nOk (P : Program) (t : TypeId) (n : Option Nat) : Bool :=
  match P.underlying t, P.info? t with
  | some d, some i => match aggB d with | true => n == some i.size | false => n == none && i.size == 1
  | _, _ => false
def partsOk (place : Nat → Option (Nat × Nat)) : List (Nat × Operand) → List (Nat × Nat × Opd) → Bool
  | [], [] => true
  | (i, x) :: r, (off, size, y) :: l => (match place i with | some (o, n) => o == off && n == size | none => false) && opdOk x y && partsOk place r l
  | _, _ => false
def constsOk : List Value → List AV → Bool
  | [], [] => true
  | v :: r, a :: l => constOk v a && constsOk r l
  | _, _ => false
def zeroIs (P : Program) (t : TypeId) (z : List AV) : Bool :=
  match P.info? t with | some i => (match i.zero with | some v => constsOk v.cells.toList z | none => false) | none => false
def zeroTy (P : Program) (t : TypeId) (ty : Ty) (z : ty.den) : Bool :=
  match P.info? t with
  | some i => (match i.zero with
    | some v => (match ty.one (ty.cells z) with | some _ => true | none => false) && constsOk v.cells.toList (ty.cells z)
    | none => false)
  | none => false
def isBool (P : Program) (t : TypeId) : Bool := match P.underlying t with | some .bool => true | _ => false
def isPtr (P : Program) (t : TypeId) : Bool := match P.underlying t with | some (.pointer _) => true | _ => false
def isMapT (P : Program) (t : TypeId) : Bool := match P.underlying t with | some (.map _ _) => true | _ => false
def isSliceT (P : Program) (t : TypeId) : Bool := match P.underlying t with | some (.slice _) => true | _ => false
def isStr (P : Program) (t : TypeId) : Bool := match P.underlying t with | some .string => true | _ => false
def slElem (P : Program) (t : TypeId) : Option TypeId := match P.underlying t with | some (.slice e) => some e | _ => none
theorem slElem_of {P : Program} {t e : TypeId} (h : slElem P t = some e) : P.underlying t = some (.slice e) := by
  unfold slElem at h; split at h
  · cases h; assumption
  · cases h
theorem isBool_of {P : Program} {t : TypeId} (h : isBool P t = true) : P.underlying t = some .bool := by unfold isBool at h; split at h <;> first | assumption | cases h
theorem isStr_of {P : Program} {t : TypeId} (h : isStr P t = true) : P.underlying t = some .string := by unfold isStr at h; split at h <;> first | assumption | cases h
theorem isPtr_of {P : Program} {t : TypeId} (h : isPtr P t = true) : ∃ e, P.underlying t = some (.pointer e) := by unfold isPtr at h; split at h <;> first | exact ⟨_, by assumption⟩ | cases h
theorem isMap_of {P : Program} {t : TypeId} (h : isMapT P t = true) : ∃ k e, P.underlying t = some (.map k e) := by unfold isMapT at h; split at h <;> first | exact ⟨_, _, by assumption⟩ | cases h
theorem isSlice_of {P : Program} {t : TypeId} (h : isSliceT P t = true) : ∃ e, P.underlying t = some (.slice e) := by unfold isSliceT at h; split at h <;> first | exact ⟨_, by assumption⟩ | cases h
def nilC : Operand → Bool
  | .const (.slice none 0 0) => true
  | _ => false
def isIntT (P : Program) (t : TypeId) : Bool := match P.underlying t with | some (.int _) => true | _ => false
def kindsF (cells : TypeId → Nat) (rec : TypeId → Option (List Leaf)) : List Field → Nat → Option (List Leaf)
  | [], _ => some []
  | f :: r, off => if f.offset = off ∧ f.name ≠ "_" then (rec f.type).bind fun ks => if ks.length = cells f.type then (kindsF cells rec r (off + ks.length)).map (ks ++ ·) else none else none
def kindsAt (P : Program) : Nat → TypeId → Option (List Leaf)
  | 0, _ => none
  | d + 1, t => match P.underlying t with
    | some .bool => some [.bool]
    | some (.int k) => some [.int k]
    | some .string => some [.str]
    | some (.array n e) => (kindsAt P d e).bind fun ks => if ks.length = P.cellsOf e ∧ P.cellsOf t = n * ks.length then some (List.replicate n ks).flatten else none
    | some (.struct fs) => (kindsF P.cellsOf (kindsAt P d) fs.toList 0).bind fun ks => if ks.length = P.cellsOf t then some ks else none
    | _ => none
def isWide (P : Program) (t : TypeId) : Bool := match P.underlying t with | some (.array _ _) | some (.struct _) => true | _ => false
def opOk (P : Program) (o : Op) (io : IOp) : Bool :=
  match io with
  | .mov y => match o with | .move x => opdOk x y | .assign x => opdOk x y | _ => false
  | .bin op' x' y' => match o with | .binOp op _ x y _ => op == op' && opdOk x x' && opdOk y y' | _ => false
  | .eqb neg x' y' => match o with
    | .binOp op xt x y _ => op == (if neg then .neq else .eql) && opdOk x x' && opdOk y y' && isBool P xt
    | _ => false
  | .eqp neg x' y' => match o with
    | .binOp op xt x y _ => op == (if neg then .neq else .eql) && opdOk x x' && opdOk y y' && isPtr P xt
    | _ => false
  | .eqn neg x' y' => match o with
    | .binOp op xt x y _ => op == (if neg then .neq else .eql) && opdOk x x' && opdOk y y' && isMapT P xt
    | _ => false
  | .isnil neg x' => match o with
    | .binOp op xt x y _ => op == (if neg then .neq else .eql) && opdOk x x' && nilC y && isSliceT P xt
    | _ => false
  | .un op' x' => match o with | .unOp op _ x => op == op' && opdOk x x' | _ => false
  | .conv k x' => match o with
    | .convert src dst x => opdOk x x' && (P.underlying src).isSome && (match P.underlying dst with | some (.int k') => k == k' | _ => false)
    | _ => false
  | .pick c' x' y' => match o with | .pick c x y => opdOk c c' && opdOk x x' && opdOk y y' | _ => false
  | .len x' => match o with
    | .call ⟨.builtin .len, args, ts⟩ => opdsOk args.toList [x'] && (match ts[0]? with | some t => isSliceT P t | none => false)
    | _ => false
  | .slen x' => match o with
    | .call ⟨.builtin .len, args, ts⟩ => opdsOk args.toList [x'] && (match ts[0]? with | some t => isStr P t | none => false)
    | _ => false
  | .minmax mx x' y' => match o with
    | .call ⟨.builtin b, args, _⟩ => b == (if mx then .max else .min) && opdsOk args.toList [x', y']
    | _ => false
  | .fieldAddr off a' => match o with
    | .fieldAddr s a f => opdOk a a' && (match P.underlying s with
      | some (.struct fs) => (match fs[f]? with | some d => d.offset == off && (match P.info? d.type with | some i => i.size != 0 | none => false) | none => false)
      | _ => false)
    | _ => false
  | .indexSl size a' i' => match o with
    | .indexAddr t a i => opdOk a a' && opdOk i i' && (match slElem P t with | some e => sizeIs P e size | none => false)
    | _ => false
  | .field n off x' => match o with
    | .field s x f => opdOk x x' && (match P.underlying s with
      | some (.struct fs) => (match fs[f]? with | some d => d.offset == off && nOk P d.type n | none => false)
      | _ => false)
    | _ => false
  | .sindex x' i' => match o with
    | .index t x i => opdOk x x' && opdOk i i' && isStr P t
    | _ => false
  | .pickI _ len x' i' => match o with
    | .index t x i => opdOk x x' && opdOk i i' && (match P.underlying t with | some (.array k e) => k == len && sizeIs P e 1 && (match P.underlying e with | some d => !aggB d | none => false) | _ => false)
    | _ => false
  | .build z ps => match o with
    | .build t parts => zeroIs P t z && (match P.underlying t with
      | some (.struct fs) => (fs.toList.all fun f => (P.info? f.type).isSome) && partsOk (fun i => (fs[i]?).map fun f => (f.offset, P.cellsOf f.type)) parts.toList ps
      | some (.array _ e) => (P.info? e).isSome && partsOk (fun i => some (i * P.cellsOf e, P.cellsOf e)) parts.toList ps
      | _ => false)
    | _ => false
  | .buildAll tot ps => match o with
    | .build t parts => (match P.info? t with | some i => (match i.zero with | some v => v.cells.size == tot | none => false) | none => false) && (match P.underlying t with
      | some (.struct fs) => (fs.toList.all fun f => (P.info? f.type).isSome) && partsOk (fun i => (fs[i]?).map fun f => (f.offset, P.cellsOf f.type)) parts.toList ps
      | some (.array _ e) => (P.info? e).isSome && partsOk (fun i => some (i * P.cellsOf e, P.cellsOf e)) parts.toList ps
      | _ => false)
    | _ => false
  | .slice size x' lo' hi' mx' => match o with
    | .slice t x lo hi mx => opdOk x x' && optOk lo lo' && optOk hi hi' && optOk mx mx' && (match slElem P t with | some e => sizeIs P e size | none => false)
    | _ => false
  | .extract x' i' => match o with | .extract x i => i == i' && opdOk x x' | _ => false
  | .nilck x' => match o with | .nilCheck x => opdOk x x' | _ => false
  | .box z => match o with
    | .alloc t => zeroIs P t z
    | _ => false
  | .boxv x' => match o with | .box _ x => opdOk x x' | _ => false
  | .load n a' => match o with | .load t a => nOk P t n && opdOk a a' | _ => false
  | .store n a' x' => match o with | .store t a x => sizeIs P t n && opdOk a a' && opdOk x x' | _ => false
  | .sliceAll ty n ps => match o with
    | .buildSlice t k parts => k == n && (match slElem P t with
      | some e => sizeIs P e ty.size && decide (n * ty.size ≤ 16777216) && decide (n ≤ 16777216) && (match P.info? e with
          | some i => i.zero.isSome
          | none => false) && partsOk (fun i => some (i * P.cellsOf e, P.cellsOf e)) parts.toList ps && decide (0 < n * ty.size)
      | none => false)
    | _ => false
  | .sliceOwn ty n ps => match o with
    | .buildSlice t k parts => k == n && (match slElem P t with
      | some e => sizeIs P e ty.size && decide (n * ty.size ≤ 16777216) && decide (n ≤ 16777216) && (match P.info? e with
          | some i => i.zero.isSome
          | none => false) && partsOk (fun i => some (i * P.cellsOf e, P.cellsOf e)) parts.toList ps && decide (0 < n * ty.size)
      | none => false)
    | _ => false
  | .slice0 ty => match o with
    | .buildSlice t k parts => k == 0 && parts.isEmpty && (match slElem P t with | some e => sizeIs P e ty.size | none => false)
    | _ => false
  | .mkrow ty bytes z n' c' => match o with
    | .makeSlice t n c => opdOk n n' && opdOk c c' && (match slElem P t with | some e => sizeIs P e ty.size && bytesIs P e bytes && zeroTy P e ty z | none => false)
    | _ => false
  | .append ty bytes x' y' => match o with
    | .call ⟨.builtin .append, args, ts⟩ => opdsOk args.toList [x', y'] && (match ts.toList with
      | [t, u] => (match slElem P t with | some e => sizeIs P e ty.size && bytesIs P e bytes && decide (0 < bytes) && decide (0 < ty.size) && (match P.info? e with | some i => (match i.zero with | some v => v.cells.size == ty.size | none => false) | none => false) | none => false) && isSliceT P u
      | _ => false)
    | _ => false
  | .appendz ty bytes z x' n' => match o with
    | .call ⟨.builtin .append, args, ts⟩ => opdsOk args.toList [x', n'] && (match ts.toList with
      | [t, u] => (match slElem P t with | some e => sizeIs P e ty.size && bytesIs P e bytes && decide (0 < bytes) && decide (0 < ty.size) && zeroTy P e ty z | none => false) && isIntT P u
      | _ => false)
    | _ => false
  | .copy ty x' y' => match o with
    | .call ⟨.builtin .copy, args, ts⟩ => opdsOk args.toList [x', y'] && (match ts[0]? with
      | some t => (match slElem P t with | some e => sizeIs P e ty.size && decide (0 < ty.size) | none => false)
      | none => false)
    | _ => false
  | .s2b x' => match o with
    | .convert src dst x => opdOk x x' && isStr P src && (match slElem P dst with | some e => (match P.underlying e with | some (.int .u8) => true | _ => false) | none => false)
    | _ => false
  | .b2s x' => match o with
    | .convert src dst x => opdOk x x' && isStr P dst && (match slElem P src with | some e => (match P.underlying e with | some (.int .u8) => true | _ => false) | none => false)
    | _ => false
  | .mkmap _ _ => match o with
    | .makeMap _ r => r.isNone
    | _ => false
  | .mlen x' => match o with
    | .call ⟨.builtin .len, args, ts⟩ => opdsOk args.toList [x'] && (match ts[0]? with | some t => isMapT P t | none => false)
    | _ => false
  | .call _ f' args' => match o with | .call ⟨.value f, args, _⟩ => opdOk f f' && opdsOk args.toList args' | _ => false
  | .bad => true
  | .eqs neg ks x' y' => match o with
    | .binOp op xt x y _ => op == (if neg then .neq else .eql) && opdOk x x' && opdOk y y' && P.keyTypeAt 8 xt && isWide P xt && kindsAt P 8 xt == some ks && !P.eqGuardType P.depth xt
    | _ => false
  | .rngs x' => match o with | .range t x => opdOk x x' && isStr P t | _ => false
  | .nxts x' => match o with | .next x true => opdOk x x' | _ => false
  | .appends x' y' => match o with
    | .call ⟨.builtin .append, args, ts⟩ => opdsOk args.toList [x', y'] && (match ts.toList with
      | [t, u] => (match slElem P t with | some e => sizeIs P e 1 && bytesIs P e 1 && (match P.info? e with | some i => (match i.zero with | some v => v.cells.size == 1 | none => false) | none => false) | none => false) && isStr P u
      | _ => false)
    | _ => false
  | .nilrow _ => match o with | .move x => nilC x | .assign x => nilC x | _ => false
def optL : Option Opd → List Opd | none => [] | some x => [x]
def IOp.opds : IOp → List Opd
  | .mov x | .un _ x | .conv _ x | .len x | .slen x | .fieldAddr _ x | .field _ _ x | .extract x _ | .nilck x | .boxv x | .load _ x | .s2b x | .b2s x | .mlen x | .isnil _ x | .rngs x | .nxts x => [x]
  | .bin _ x y | .eqs _ _ x y | .eqb _ x y | .eqp _ x y | .eqn _ x y | .minmax _ x y | .indexSl _ x y | .sindex x y | .pickI _ _ x y | .store _ x y | .append _ _ x y | .appendz _ _ _ x y | .appends x y | .copy _ x y | .mkrow _ _ _ x y => [x, y]
  | .pick x y z => [x, y, z]
  | .build _ ps | .buildAll _ ps | .sliceAll _ _ ps | .sliceOwn _ _ ps => ps.map (·.2.2)
  | .slice _ x lo hi mx => [x] ++ optL lo ++ optL hi ++ optL mx
  | .box _ | .slice0 _ | .mkmap _ _ | .bad | .nilrow _ => []
  | .call _ f args => f :: args
def FOn (L : List Opd) (fr : Frame) (I : Nat → Prop) (w : World) (m : M) (a : Act) : Prop := ∀ i, Opd.t i ∈ L → RV I w m (fr.get i) (a.tmps.getD i undef)
def AV.ids0 : AV → List Nat
  | .ptr i _ | .own i | .view i _ _ | .rptr i _ _ | .mapv i | .bview i _ _ _ | .fnp _ i => [i]
  | _ => []
def idsL0 (l : List AV) : List Nat := l.flatMap AV.ids0
def AV.ids1 : AV → List Nat
  | .agg l => idsL0 l
  | v => v.ids0
def idsL1 (l : List AV) : List Nat := l.flatMap AV.ids1
def AV.ids : AV → List Nat
  | .fn _ l c => idsL1 l ++ idsL1 c
  | .tup l => idsL1 l
  | v => v.ids1
def footL (L : List Opd) (fr : Frame) : List Nat := L.flatMap fun x => (x.ev fr).ids
theorem foot_mem {L : List Opd} {fr : Frame} {x : Opd} {v : AV} (hx : x ∈ L) (e : x.ev fr = v) : ∀ i ∈ v.ids, i ∈ footL L fr := fun i hi => by
  unfold footL; exact List.mem_flatMap.2 ⟨x, hx, by rw [e]; exact hi⟩
theorem flat_ids {v : AV} {c : List AV} (h : v.flat = some c) : ∀ i ∈ idsL0 c, i ∈ v.ids := by
  by_cases hf : ∃ f l c, v = .fn f l c
  · obtain ⟨f, l, cp, rfl⟩ := hf
    have h : fnFlat f l cp = some c := h
    unfold fnFlat at h
    split at h
    · split at h
      · split at h
        · cases h; intro i hi; simpa [idsL0, AV.ids, AV.ids1, AV.ids0, idsL1] using hi
        · cases h
      · cases h
    · cases h
  · cases v <;> first | exact absurd ⟨_, _, _, rfl⟩ hf | (simp only [AV.flat, Option.some.injEq, reduceCtorEq] at h <;> subst h <;> intro i hi <;> simpa [idsL0, AV.ids, AV.ids1] using hi)
section ops
variable {P : Program} {o : Oper} {I : Nat → Prop} {w : World} {m : M} {a : Act} {fr : Frame} {L : List Opd}
theorem const_rv {v : Value} {x : AV} (h : constOk v x = true) : RV0 I w m x v := by
  unfold constOk at h
  split at h
  · simp only [Bool.and_eq_true, beq_iff_eq] at h
    obtain ⟨⟨rfl, rfl⟩, h⟩ := h
    exact ⟨rfl, inK_of h⟩
  · simp only [beq_iff_eq] at h; subst h; rfl
  · simp only [beq_iff_eq] at h; subst h; rfl
  · simp only [Bool.and_eq_true, beq_iff_eq, decide_eq_true_eq] at h
    exact ⟨_, rfl, h.1.symm, h.2⟩
  · exact ⟨none, 0, 0, rfl, rfl, Nat.le_refl _, Nat.zero_le _, fun h => absurd h (by omega)⟩
  · rfl
  · rfl
  · rfl
  · rfl
  · cases h
theorem consts_rv : ∀ {r : List Value} {l : List AV}, constsOk r l = true → RVL0 I w m l r
  | [], [], _ => trivial
  | v :: r, a :: l, h => by
    simp only [constsOk, Bool.and_eq_true] at h
    exact ⟨const_rv h.1, consts_rv h.2⟩
  | [], _ :: _, h => by cases h
  | _ :: _, [], h => by cases h
theorem FOn.rv (hf : FOn L fr I w m a) {x : Operand} {y : Opd} (hm : y ∈ L) (h : opdOk x y = true) : RV I w m (y.ev fr) (a.eval x) := by
  unfold opdOk at h
  split at h
  · simp only [beq_iff_eq] at h; subst h; exact hf _ hm
  · exact RV_0 (const_rv h)
  · simp only [beq_iff_eq] at h; subst h; exact ⟨#[], #[], rfl, trivial, trivial⟩
  · cases h
theorem FOn.mono {L' : List Opd} (hf : FOn L fr I w m a) (h : ∀ x ∈ L', x ∈ L) : FOn L' fr I w m a := fun i hi => hf i (h _ hi)
theorem rv_int {k : IntKind} {n : Int} {v : Value} (h : RV I w m (.int k n) v) : v = .int k n ∧ inK k n := h
theorem rv_bool {b : Bool} {v : Value} (h : RV I w m (.bool b) v) : v = .bool b := h
theorem rv_kb {b : Bool} {v : Value} (h : RV I w m (.kb b) v) : v = .bool b := h
theorem rv_toB {a : AV} {b : Bool} {v : Value} (h : RV I w m a v) (e : a.toB = some b) : v = .bool b := by
  cases a <;> simp only [AV.toB, Option.some.injEq, reduceCtorEq] at e
  · subst e; exact h
  · subst e; exact h
theorem mk_int {k : IntKind} {n : Int} (h : inK k n) : RV I w m (.int k n) (.int k n) := ⟨rfl, h⟩
theorem mk_bool {b : Bool} : RV I w m (.bool b) (.bool b) := rfl
theorem mk_kb {b : Bool} : RV I w m (.kb b) (.bool b) := rfl
theorem inK_i64 {n : Nat} (h : n ≤ maxLen) : inK .i64 n := by
  simp only [inK, IntKind.min, IntKind.max, IntKind.signed, IntKind.bits, if_true]
  unfold maxLen at h
  constructor <;> simp <;> omega
theorem inK_tmod {k : IntKind} {a b : Int} (ha : inK k a) (hb : b ≠ 0) : inK k (a.tmod b) := by
  have h2 : a.tmod b ≤ a.natAbs ∧ -(a.natAbs : Int) ≤ a.tmod b := by
    have := Int.natAbs_tmod a b
    have h3 := Nat.mod_le a.natAbs b.natAbs
    omega
  have h4 : 0 ≤ a → 0 ≤ a.tmod b := fun h => Int.tmod_nonneg b h
  have h5 : a ≤ 0 → a.tmod b ≤ 0 := fun h => by
    have := Int.tmod_nonneg b (show 0 ≤ -a by omega)
    rw [Int.neg_tmod] at this; omega
  cases k <;> simp only [inK, IntKind.min, IntKind.max, IntKind.signed, IntKind.bits] at ha ⊢ <;> simp only [if_true, Bool.false_eq_true, if_false, Nat.reduceSub, Int.reducePow] at ha ⊢ <;> omega
theorem inK_fdiv {k : IntKind} {a : Int} {n : Nat} (ha : inK k a) : inK k (a.fdiv (2 ^ n)) := by
  have hp : (0 : Int) < 2 ^ n := Int.pow_pos (by omega)
  have e : a.fdiv (2 ^ n) = a / 2 ^ n := Int.fdiv_eq_ediv_of_nonneg a (Int.le_of_lt hp)
  rw [e]
  have h1 : 0 ≤ a → 0 ≤ a / 2 ^ n ∧ a / 2 ^ n ≤ a := fun h => ⟨Int.ediv_nonneg h (Int.le_of_lt hp), Int.ediv_le_self _ h⟩
  have h2 : a < 0 → a ≤ a / 2 ^ n ∧ a / 2 ^ n < 0 := fun h => by
    refine ⟨?_, Int.ediv_neg_of_neg_of_pos h hp⟩
    rw [Int.le_ediv_iff_mul_le hp]
    have : a * 2 ^ n ≤ a * 1 := Int.mul_le_mul_of_nonpos_left (by omega) (by omega)
    omega
  cases k <;> simp only [inK, IntKind.min, IntKind.max, IntKind.signed, IntKind.bits] at ha ⊢ <;> simp only [if_true, Bool.false_eq_true, if_false, Nat.reduceSub, Int.reducePow] at ha ⊢ <;>
    rcases Int.lt_or_le a 0 with h | h <;> first | (have := h2 h; omega) | (have := h1 h; omega)
theorem bytesI_len (s : ByteArray) : (bytesI s).length = s.size := by unfold bytesI; rw [List.length_map, Array.length_toList]; rfl
theorem bytesI_inj {s t : ByteArray} : bytesI s = bytesI t ↔ s = t := by
  constructor
  · intro h
    unfold bytesI at h
    have : s.data.toList = t.data.toList := by
      refine List.map_inj_right (f := fun b : UInt8 => (b.toNat : Int)) ?_ |>.1 h
      intro x y hxy
      exact UInt8.toNat_inj.1 (Int.ofNat.inj hxy)
    cases s; cases t; congr 1; exact Array.toList_inj.1 this
  · intro h; rw [h]
theorem toList_inj {s t : ByteArray} : s.toList = t.toList ↔ s = t := by
  constructor
  · intro h; rw [ByteArray.toList_eq, ByteArray.toList_eq] at h
    cases s; cases t; congr 1; exact Array.toList_inj.1 h
  · intro h; rw [h]
theorem bytesI_eq (s t : ByteArray) : (s.toList == t.toList) = decide (bytesI s = bytesI t) := by
  rw [Bool.eq_iff_iff]; simp [bytesI_inj, toList_inj]
theorem bytesI_append (s t : ByteArray) : bytesI (s ++ t) = bytesI s ++ bytesI t := by
  unfold bytesI; simp
theorem beq_dec (p q : Int) : (p == q) = decide (p = q) := by rw [Bool.eq_iff_iff]; simp
def POK (P : Program) (o : Oper) (L : List Opd) (fr : Frame) (K : AV → Prop) : Prop :=
  ∃ v, K v ∧ ∀ {I : Nat → Prop} {w : World} {m : M} {a : Act}, FOn L fr I w m a → ∃ cv, RV I w m v cv ∧ (execOp a.eval o).run P w = .ok (.value cv) w
theorem exec_v {S : Sem Value} {cv : Value} {w' : World} (he : execOp a.eval o = (do pure (.value (← S)))) (hr : S.run P w = .ok cv w') : (execOp a.eval o).run P w = .ok (.value cv) w' := by
  rw [he, Sem.run_bind, hr]; rfl
theorem exec_u {S : Sem Unit} {w' : World} (he : execOp a.eval o = (do S; pure .skip)) (hr : S.run P w = .ok () w') : (execOp a.eval o).run P w = .ok .skip w' := by
  rw [he, Sem.run_bind, hr]; rfl
theorem bin_sound {op : BinOp} {X Y : AV} {K : AV → Prop} (ev : evBin op X Y K) :
    ∃ v, K v ∧ ∀ {P : Program} {I : Nat → Prop} {w : World} {m : M} {a : Act} {xt : TypeId} {x y : Operand}, RV I w m X (a.eval x) → RV I w m Y (a.eval y) →
      ∃ cv, RV I w m v cv ∧ (do eqGuard op xt x y (a.eval x) (a.eval y); binOp op xt (a.eval x) (a.eval y)).run P w = .ok cv w := by
  cases op with
  | add =>
    simp only [evBin] at ev
    split at ev
    · rename_i p q
      obtain ⟨h0, hk⟩ := need_both ev
      refine ⟨_, hk, fun {P I w m a xt x y} hx hy => ?_⟩
      obtain ⟨s1, e1, rfl, h1⟩ := hx
      obtain ⟨s2, e2, rfl, h2⟩ := hy
      rw [bytesI_len, bytesI_len] at h0
      refine ⟨.string (s1 ++ s2), ⟨_, rfl, (bytesI_append s1 s2).symm, ?_⟩, ?_⟩
      · rw [ByteArray.size_append]; unfold maxLen; omega
      · have hle : ¬ (((s1.size + s2.size : Nat) : Int) > IntKind.i64.max) := by
          simp only [IntKind.max, IntKind.signed, IntKind.bits, if_true]; simp; omega
        rw [e1, e2]
        show (do eqGuard .add xt x y (.string s1) (.string s2); binOp .add xt (.string s1) (.string s2)).run P w = _
        simp only [binOp, Op.stringOp]
        rw [if_neg hle]
        simp [eqGuard]
    · obtain ⟨k, p, q, rfl, rfl, ev'⟩ := ints2_cases ev; replace ev := ev'
      refine ⟨_, ari_cases ev, fun {P I w m a xt x y} hx hy => ⟨_, mk_int (wrap_inK _ _), ?_⟩⟩
      simp [(rv_int hx).1, (rv_int hy).1, eqGuard, binOp, Op.intArith]
  | sub =>
    simp only [evBin] at ev
    obtain ⟨k, p, q, rfl, rfl, ev'⟩ := ints2_cases ev; replace ev := ev'
    refine ⟨_, ari_cases ev, fun {P I w m a xt x y} hx hy => ⟨_, mk_int (wrap_inK _ _), ?_⟩⟩
    simp [(rv_int hx).1, (rv_int hy).1, eqGuard, binOp, Op.intArith]
  | mul =>
    simp only [evBin] at ev
    obtain ⟨k, p, q, rfl, rfl, ev'⟩ := ints2_cases ev; replace ev := ev'
    refine ⟨_, ari_cases ev, fun {P I w m a xt x y} hx hy => ⟨_, mk_int (wrap_inK _ _), ?_⟩⟩
    simp [(rv_int hx).1, (rv_int hy).1, eqGuard, binOp, Op.intArith]
  | quo =>
    simp only [evBin] at ev
    obtain ⟨k, p, q, rfl, rfl, ev'⟩ := ints2_cases ev; replace ev := ev'
    obtain ⟨h0, ev⟩ := need_both ev
    refine ⟨_, ari_cases ev, fun {P I w m a xt x y} hx hy => ⟨_, mk_int (wrap_inK _ _), ?_⟩⟩
    simp [(rv_int hx).1, (rv_int hy).1, eqGuard, binOp, Op.intDiv, h0]
  | rem =>
    simp only [evBin] at ev
    obtain ⟨k, p, q, rfl, rfl, ev'⟩ := ints2_cases ev; replace ev := ev'
    obtain ⟨h0, ev⟩ := need_both ev
    refine ⟨_, ev, fun {P I w m a xt x y} hx hy => ⟨_, mk_int (inK_tmod (rv_int hx).2 h0), ?_⟩⟩
    simp [(rv_int hx).1, (rv_int hy).1, eqGuard, binOp, Op.intDiv, h0]
  | and =>
    simp only [evBin] at ev
    obtain ⟨k, p, q, rfl, rfl, ev'⟩ := ints2_cases ev; replace ev := ev'
    refine ⟨_, ev, fun {P I w m a xt x y} hx hy => ⟨_, mk_int (wrap_inK _ _), ?_⟩⟩
    simp [(rv_int hx).1, (rv_int hy).1, eqGuard, binOp, Op.intBits, bitop]
  | or =>
    simp only [evBin] at ev
    obtain ⟨k, p, q, rfl, rfl, ev'⟩ := ints2_cases ev; replace ev := ev'
    refine ⟨_, ev, fun {P I w m a xt x y} hx hy => ⟨_, mk_int (wrap_inK _ _), ?_⟩⟩
    simp [(rv_int hx).1, (rv_int hy).1, eqGuard, binOp, Op.intBits, bitop]
  | xor =>
    simp only [evBin] at ev
    obtain ⟨k, p, q, rfl, rfl, ev'⟩ := ints2_cases ev; replace ev := ev'
    refine ⟨_, ev, fun {P I w m a xt x y} hx hy => ⟨_, mk_int (wrap_inK _ _), ?_⟩⟩
    simp [(rv_int hx).1, (rv_int hy).1, eqGuard, binOp, Op.intBits, bitop]
  | andNot =>
    simp only [evBin] at ev
    obtain ⟨k, p, q, rfl, rfl, ev'⟩ := ints2_cases ev; replace ev := ev'
    refine ⟨_, ev, fun {P I w m a xt x y} hx hy => ⟨_, mk_int (wrap_inK _ _), ?_⟩⟩
    simp [(rv_int hx).1, (rv_int hy).1, eqGuard, binOp, Op.intBits, bitop]
  | shl =>
    simp only [evBin] at ev
    split at ev
    · rename_i k p k' q
      obtain ⟨h0, ev⟩ := need_both ev
      refine ⟨_, ari_cases ev, fun {P I w m a xt x y} hx hy => ⟨_, mk_int (wrap_inK _ _), ?_⟩⟩
      simp [(rv_int hx).1, (rv_int hy).1, eqGuard, binOp, Op.shift, show ¬ q < 0 by omega]
    · exact ev.elim
  | shr =>
    simp only [evBin] at ev
    split at ev
    · rename_i k p k' q
      obtain ⟨h0, ev⟩ := need_both ev
      refine ⟨_, ev, fun {P I w m a xt x y} hx hy => ⟨_, mk_int (inK_fdiv (rv_int hx).2), ?_⟩⟩
      simp [(rv_int hx).1, (rv_int hy).1, eqGuard, binOp, Op.shift, show ¬ q < 0 by omega]
    · exact ev.elim
  | eql =>
    simp only [evBin] at ev
    split at ev
    · refine ⟨_, ev, fun {P I w m a xt x y} hx hy => ?_⟩
      obtain ⟨s1, e1, rfl, h1⟩ := hx
      obtain ⟨s2, e2, rfl, h2⟩ := hy
      exact ⟨_, mk_bool, by simp [e1, e2, eqGuard, binOp, Op.stringOp, bytesI_eq, bne]⟩
    · obtain ⟨k, p, q, rfl, rfl, ev'⟩ := ints2_cases ev; replace ev := ev'
      refine ⟨_, ev, fun {P I w m a xt x y} hx hy => ⟨_, mk_bool, ?_⟩⟩
      simp [(rv_int hx).1, (rv_int hy).1, eqGuard, binOp, Op.intCmp, beq_dec]
  | neq =>
    simp only [evBin] at ev
    split at ev
    · refine ⟨_, ev, fun {P I w m a xt x y} hx hy => ?_⟩
      obtain ⟨s1, e1, rfl, h1⟩ := hx
      obtain ⟨s2, e2, rfl, h2⟩ := hy
      exact ⟨_, mk_bool, by simp [e1, e2, eqGuard, binOp, Op.stringOp, bytesI_eq, bne]⟩
    · obtain ⟨k, p, q, rfl, rfl, ev'⟩ := ints2_cases ev; replace ev := ev'
      refine ⟨_, ev, fun {P I w m a xt x y} hx hy => ⟨_, mk_bool, ?_⟩⟩
      simp [(rv_int hx).1, (rv_int hy).1, eqGuard, binOp, Op.intCmp, bne, beq_dec]
  | lss =>
    simp only [evBin] at ev
    obtain ⟨k, p, q, rfl, rfl, ev'⟩ := ints2_cases ev; replace ev := ev'
    refine ⟨_, ev, fun {P I w m a xt x y} hx hy => ⟨_, mk_bool, ?_⟩⟩
    simp [(rv_int hx).1, (rv_int hy).1, eqGuard, binOp, Op.intCmp, beq_dec]
  | leq =>
    simp only [evBin] at ev
    obtain ⟨k, p, q, rfl, rfl, ev'⟩ := ints2_cases ev; replace ev := ev'
    refine ⟨_, ev, fun {P I w m a xt x y} hx hy => ⟨_, mk_bool, ?_⟩⟩
    simp [(rv_int hx).1, (rv_int hy).1, eqGuard, binOp, Op.intCmp, beq_dec]
  | gtr =>
    simp only [evBin] at ev
    obtain ⟨k, p, q, rfl, rfl, ev'⟩ := ints2_cases ev; replace ev := ev'
    refine ⟨_, ev, fun {P I w m a xt x y} hx hy => ⟨_, mk_bool, ?_⟩⟩
    simp [(rv_int hx).1, (rv_int hy).1, eqGuard, binOp, Op.intCmp, beq_dec]
  | geq =>
    simp only [evBin] at ev
    obtain ⟨k, p, q, rfl, rfl, ev'⟩ := ints2_cases ev; replace ev := ev'
    refine ⟨_, ev, fun {P I w m a xt x y} hx hy => ⟨_, mk_bool, ?_⟩⟩
    simp [(rv_int hx).1, (rv_int hy).1, eqGuard, binOp, Op.intCmp, beq_dec]
theorem run_builtin {b : Builtin} {args : Array Operand} {ts : Array TypeId}
    (ho : o.op = .call { callee := .builtin b, args := args, argTypes := ts }) :
    execOp a.eval o = builtin b ts o.type (args.map fun | .const _ => true | _ => false) (args.map a.eval) := by
  unfold execOp
  simp only [ho]
  rfl
theorem un_sound {op : UnOp} {X : AV} {K : AV → Prop} (ev : evUn op X K) :
    ∃ v, K v ∧ ∀ {P : Program} {I : Nat → Prop} {w : World} {m : M} {x : Value}, RV I w m X x → ∃ cv, RV I w m v cv ∧ (Op.unary op x).run P w = .ok cv w := by
  unfold evUn at ev
  split at ev
  · exact ⟨_, ev, fun {P I w m x} hx => ⟨_, mk_bool, by rw [rv_bool hx]; simp [Op.unary]⟩⟩
  · rename_i b
    exact ⟨_, ev, fun {P I w m x} hx => ⟨_, mk_kb, by rw [rv_kb hx]; cases b <;> simp [Op.unary]⟩⟩
  · exact ⟨_, ari_cases ev, fun {P I w m x} hx => ⟨_, mk_int (wrap_inK _ _), by rw [(rv_int hx).1]; simp [Op.unary, Op.intArith]⟩⟩
  · exact ⟨_, ev, fun {P I w m x} hx => ⟨_, mk_int (wrap_inK _ _), by rw [(rv_int hx).1]; simp [Op.unary, Op.intBits, bitop]⟩⟩
  · exact ev.elim
theorem equalIn_bool {d : Nat} {t : TypeId} {p q : Bool} (ht : P.underlying t = some .bool) :
    (Op.equalIn (d + 1) t (.bool p) (.bool q)).run P w = .ok (p == q) w := by
  unfold Op.equalIn
  simp only [Sem.run_bind, run_underlying ht, Result.andThen_ok, Sem.run_pure]
theorem equalIn_ptr {d : Nat} {t e : TypeId} {x y : Option Addr} (ht : P.underlying t = some (.pointer e)) (h : x = none ∨ y = none) :
    (Op.equalIn (d + 1) t (.pointer x) (.pointer y)).run P w = .ok (x.isNone && y.isNone) w := by
  unfold Op.equalIn
  simp only [Sem.run_bind, run_underlying ht, Result.andThen_ok]
  rcases h with rfl | rfl
  · simp
  · cases x <;> simp
theorem equalIn_map {d : Nat} {t k e : TypeId} {x y : Option Nat} (ht : P.underlying t = some (.map k e)) (h : x = none ∨ y = none) :
    (Op.equalIn (d + 1) t (.map x) (.map y)).run P w = .ok (x.isNone && y.isNone) w := by
  unfold Op.equalIn
  simp only [Sem.run_bind, run_underlying ht, Result.andThen_ok]
  rcases h with rfl | rfl
  · simp
  · cases x <;> simp
theorem equalIn_slice {d : Nat} {t e : TypeId} {x : Option Addr} {n c : Nat} (ht : P.underlying t = some (.slice e)) :
    (Op.equalIn (d + 1) t (.slice x n c) (.slice none 0 0)).run P w = .ok x.isNone w := by
  unfold Op.equalIn
  simp only [Sem.run_bind, run_underlying ht, Result.andThen_ok]
  cases x <;> simp
theorem eq_run {neg : Bool} {xt : TypeId} {x y : Operand} {u v : Value} {r : Bool}
    (hk : (∃ p q, u = .bool p ∧ v = .bool q) ∨ (∃ p q, u = .pointer p ∧ v = .pointer q) ∨ (∃ p q, u = .map p ∧ v = .map q) ∨ (∃ p n c q n' c', u = .slice p n c ∧ v = .slice q n' c')) (hr : (Op.equal xt u v).run P w = .ok r w) :
    (do eqGuard (if neg then .neq else .eql) xt x y u v; binOp (if neg then .neq else .eql) xt u v).run P w = .ok (.bool (match neg with | true => !r | false => r)) w := by
  cases neg
  · have e : (do eqGuard .eql xt x y u v; binOp .eql xt u v : Sem Value) = (do let r ← Op.equal xt u v; pure (.bool r)) := by
      rcases hk with ⟨p, q, rfl, rfl⟩ | ⟨p, q, rfl, rfl⟩ | ⟨p, q, rfl, rfl⟩ | ⟨p, n, c, q, n', c', rfl, rfl⟩ <;> rfl
    show (do eqGuard .eql xt x y u v; binOp .eql xt u v : Sem Value).run P w = _
    rw [e, Sem.run_bind, hr]; rfl
  · have e : (do eqGuard .neq xt x y u v; binOp .neq xt u v : Sem Value) = (do let r ← Op.equal xt u v; pure (.bool (!r))) := by
      rcases hk with ⟨p, q, rfl, rfl⟩ | ⟨p, q, rfl, rfl⟩ | ⟨p, q, rfl, rfl⟩ | ⟨p, n, c, q, n', c', rfl, rfl⟩ <;> rfl
    show (do eqGuard .neq xt x y u v; binOp .neq xt u v : Sem Value).run P w = _
    rw [e, Sem.run_bind, hr]; rfl
theorem eqp_sound {neg : Bool} {X Y : AV} {K : AV → Prop} (ev : eqpK neg X Y K) :
    ∃ v, K v ∧ ∀ {P : Program} {I : Nat → Prop} {w : World} {m : M} {a : Act} {xt e : TypeId} {x y : Operand}, P.underlying xt = some (.pointer e) → RV I w m X (a.eval x) → RV I w m Y (a.eval y) →
      ∃ cv, RV I w m v cv ∧ (do eqGuard (if neg then .neq else .eql) xt x y (a.eval x) (a.eval y); binOp (if neg then .neq else .eql) xt (a.eval x) (a.eval y)).run P w = .ok cv w := by
  unfold eqpK at ev
  split at ev
  · refine ⟨_, ev, fun {P I w m a xt e x y} ht hx hy => ⟨.bool (!neg), mk_kb, ?_⟩⟩
    have h1 : a.eval x = .pointer none := hx
    have h2 : a.eval y = .pointer none := hy
    rw [eq_run (r := true) (.inr (.inl ⟨_, _, h1, h2⟩)) (by rw [h1, h2]; exact equalIn_ptr (d := 9999) ht (.inl rfl))]
    cases neg <;> rfl
  · refine ⟨_, ev, fun {P I w m a xt e x y} ht hx hy => ⟨.bool neg, mk_kb, ?_⟩⟩
    obtain ⟨b, _, h1, _⟩ := hx
    have h2 : a.eval y = .pointer none := hy
    rw [eq_run (r := false) (.inr (.inl ⟨_, _, h1, h2⟩)) (by rw [h1, h2]; exact equalIn_ptr (d := 9999) ht (.inr rfl))]
    cases neg <;> rfl
  · refine ⟨_, ev, fun {P I w m a xt e x y} ht hx hy => ⟨.bool neg, mk_kb, ?_⟩⟩
    obtain ⟨b, _, h2, _⟩ := hy
    have h1 : a.eval x = .pointer none := hx
    rw [eq_run (r := false) (.inr (.inl ⟨_, _, h1, h2⟩)) (by rw [h1, h2]; exact equalIn_ptr (d := 9999) ht (.inl rfl))]
    cases neg <;> rfl
  · exact ev.elim
theorem run_isAgg {t : TypeId} {d : TypeDesc} (h : P.underlying t = some d) (w : World) : (isAgg t).run P w = .ok (aggB d) w := by
  unfold isAgg
  rw [Sem.run_bind, run_underlying h]
  cases d <;> rfl
theorem run_size {t : TypeId} {i : TypeInfo} (h : P.info? t = some i) (w : World) : (sizeOf t).run P w = .ok i.size w := by
  unfold sizeOf typeInfo
  simp [h]
theorem nOk_cases {t : TypeId} {n : Option Nat} (h : nOk P t n = true) :
    ∃ d i, P.underlying t = some d ∧ P.info? t = some i ∧ ((aggB d = true ∧ n = some i.size) ∨ (aggB d = false ∧ n = none ∧ i.size = 1)) := by
  unfold nOk at h
  split at h
  · rename_i d i hd hi
    refine ⟨d, i, hd, hi, ?_⟩
    split at h
    · rename_i hb; exact .inl ⟨hb, by simpa using h⟩
    · rename_i hb; simp only [Bool.and_eq_true, beq_iff_eq] at h; exact .inr ⟨hb, h.1, h.2⟩
  · cases h
theorem zero_run {t : TypeId} {i : TypeInfo} {v : Value} (h : P.info? t = some i) (hz : i.zero = some v) : (zeroValue t).run P w = .ok v w := by
  simp [zeroValue, typeInfo, h, hz]
theorem zeroIs_of {t : TypeId} {z : List AV} (h : zeroIs P t z = true) : ∃ i v, P.info? t = some i ∧ i.zero = some v ∧ constsOk v.cells.toList z = true := by
  unfold zeroIs at h
  split at h
  · rename_i i hi
    split at h
    · rename_i v hv; exact ⟨i, v, hi, hv, h⟩
    · cases h
  · cases h
theorem part_sound {n : Option Nat} {off : Nat} {l : List AV} {K : AV → Prop} (ev : cut n off l K) :
    ∃ v, K v ∧ ∀ {P : Program} {I : Nat → Prop} {w : World} {m : M} {t : TypeId} {cs : Array Value}, nOk P t n = true → RVL0 I w m l cs.toList → ∃ cv, RV I w m v cv ∧ (part t cs off).run P w = .ok cv w := by
  rcases cut_some ev with ⟨rfl, v, t, hd, hK⟩ | ⟨k, rfl, hle, hK⟩
  · refine ⟨v, hK, fun {P I w m t cs} hn hR => ?_⟩
    obtain ⟨d, i, hd', hi, h⟩ := nOk_cases hn
    rcases h with ⟨_, h⟩ | ⟨hb, _, hs⟩
    · cases h
    · obtain ⟨cv, h1, h2⟩ := RVL0_get hR hd
      have h1' : cs[off]? = some cv := by simpa using h1
      exact ⟨cv, RV_0 h2, by simp [part, run_isAgg hd', hb, h1']⟩
  · refine ⟨_, hK, fun {P I w m t cs} hn hR => ?_⟩
    obtain ⟨d, i, hd', hi, h⟩ := nOk_cases hn
    rcases h with ⟨hb, h⟩ | ⟨_, h, _⟩
    · cases h
      have : cs.extract off (off + i.size) = ((cs.toList.drop off).take i.size).toArray := by
        apply Array.toList_inj.1
        simp [Array.toList_extract, List.extract_eq_take_drop]
      exact ⟨.agg ((cs.toList.drop off).take i.size).toArray, ⟨_, rfl, by simpa using RVL0_take _ (RVL0_drop off hR)⟩, by simp [part, run_isAgg hd', hb, run_size hi, this]⟩
    · cases h
end ops
end Go.Eng

namespace Go.Eng
set_option linter.unusedVariables false
set_option linter.unusedSimpArgs false
set_option maxRecDepth 10000
open Go.RowKit
def LeafV : Leaf → Value → Prop
  | .int k, v => ∃ n, v = .int k n ∧ inK k n
  | .bool, v => ∃ b, v = .bool b
  | .str, v => ∃ s : ByteArray, v = .string s ∧ s.size ≤ maxLen
def Fits : List Leaf → List Value → Prop
  | [], [] => True
  | k :: ks, v :: vs => LeafV k v ∧ Fits ks vs
  | _, _ => False
def litOf : Value → Lit
  | .int k n => .int k n
  | .bool b => .bool b
  | .string s => .string s.data.toList
  | _ => .nil
theorem Fits.length : ∀ {ks : List Leaf} {vs : List Value}, Fits ks vs → vs.length = ks.length
  | [], [], _ => rfl
  | k :: ks, v :: vs, h => by simp [Fits.length h.2]
  | [], _ :: _, h => h.elim
  | _ :: _, [], h => h.elim
theorem Fits.split : ∀ {ks ks' : List Leaf} {vs : List Value}, Fits (ks ++ ks') vs → Fits ks (vs.take ks.length) ∧ Fits ks' (vs.drop ks.length)
  | [], ks', vs, h => by simpa [Fits] using h
  | k :: ks, ks', v :: vs, h => by
    have := Fits.split (ks := ks) (ks' := ks') h.2
    exact ⟨⟨h.1, this.1⟩, this.2⟩
  | k :: ks, ks', [], h => h.elim
theorem lits_fields {P : Program} {D : Nat} {rec : TypeId → Option (List Leaf)} (hrec : ∀ t ks cs, rec t = some ks → Fits ks cs → P.keyLits D t cs = some (cs.map litOf)) (all : List Value) : ∀ (fs : List Field) (off : Nat) (ks : List Leaf), kindsF P.cellsOf rec fs off = some ks → Fits ks (all.drop off) →
    ∃ Ls, fs.mapM (fun f => P.keyLits D f.type ((all.drop f.offset).take (P.cellsOf f.type))) = some Ls ∧ Ls.flatten = (all.drop off).map litOf
  | [], off, ks, h, hf => by
    simp only [kindsF, Option.some.injEq] at h
    subst h
    have : all.drop off = [] := List.length_eq_zero_iff.1 hf.length
    exact ⟨[], rfl, by rw [this]; rfl⟩
  | f :: r, off, ks, h, hf => by
    simp only [kindsF] at h
    split at h
    · rename_i hc
      obtain ⟨h1, h2⟩ := hc
      cases hk : rec f.type with
      | none => rw [hk] at h; cases h
      | some ks1 =>
        rw [hk] at h
        simp only [Option.bind_some] at h
        split at h
        · rename_i hl
          simp only [Option.map_eq_some_iff] at h
          obtain ⟨ks2, h3, rfl⟩ := h
          obtain ⟨g1, g2⟩ := hf.split
          rw [List.drop_drop] at g2
          obtain ⟨Ls, e1, e2⟩ := lits_fields hrec all r (off + ks1.length) ks2 h3 g2
          have e3 := hrec _ _ _ hk g1
          refine ⟨((all.drop off).take ks1.length).map litOf :: Ls, ?_, ?_⟩
          · rw [List.mapM_cons, h1, ← hl, e3, e1]; rfl
          · rw [List.flatten_cons, e2, ← List.map_append]
            congr 1
            rw [← List.drop_drop, List.take_append_drop]
        · cases h
    · cases h
theorem lits_items {P : Program} {D : Nat} {e : TypeId} {ks : List Leaf} (hrec : ∀ cs, Fits ks cs → P.keyLits D e cs = some (cs.map litOf)) (all : List Value) : ∀ (n start : Nat), Fits (List.replicate n ks).flatten (all.drop (start * ks.length)) →
    ∃ Ls, (List.range' start n).mapM (fun i => P.keyLits D e ((all.drop (i * ks.length)).take ks.length)) = some Ls ∧ Ls.flatten = (all.drop (start * ks.length)).map litOf
  | 0, start, hf => by
    have : all.drop (start * ks.length) = [] := List.length_eq_zero_iff.1 hf.length
    exact ⟨[], rfl, by rw [this]; rfl⟩
  | n + 1, start, hf => by
    rw [List.replicate_succ, List.flatten_cons] at hf
    obtain ⟨g1, g2⟩ := hf.split
    rw [List.drop_drop, show start * ks.length + ks.length = (start + 1) * ks.length by rw [Nat.add_mul, Nat.one_mul]] at g2
    obtain ⟨Ls, e1, e2⟩ := lits_items hrec all n (start + 1) g2
    refine ⟨((all.drop (start * ks.length)).take ks.length).map litOf :: Ls, ?_, ?_⟩
    · rw [List.range'_succ, List.mapM_cons, hrec _ g1, e1]; rfl
    · rw [List.flatten_cons, e2, ← List.map_append]
      congr 1
      rw [show (start + 1) * ks.length = start * ks.length + ks.length by rw [Nat.add_mul, Nat.one_mul], ← List.drop_drop, List.take_append_drop]
theorem keyLits_of {P : Program} : ∀ (D : Nat) (t : TypeId) (ks : List Leaf) (cs : List Value), kindsAt P D t = some ks → Fits ks cs → P.keyLits D t cs = some (cs.map litOf)
  | 0, _, _, _, h, _ => by cases h
  | D + 1, t, ks, cs, h, hf => by
    unfold kindsAt at h
    unfold Program.keyLits
    split at h
    · rename_i hu
      cases h
      cases cs with
      | nil => exact hf.elim
      | cons v r =>
        obtain ⟨⟨b, rfl⟩, h2⟩ := hf
        cases r with
        | cons _ _ => exact (h2 : False).elim
        | nil => rw [hu]; rfl
    · rename_i k hu
      cases h
      cases cs with
      | nil => exact hf.elim
      | cons v r =>
        obtain ⟨⟨n, rfl, hn⟩, h2⟩ := hf
        cases r with
        | cons _ _ => exact (h2 : False).elim
        | nil =>
          rw [hu]
          have : (Lit.int k n).wf = true := by simp only [Lit.wf, Bool.and_eq_true, decide_eq_true_eq]; exact hn
          simp [this, litOf]
    · rename_i hu
      cases h
      cases cs with
      | nil => exact hf.elim
      | cons v r =>
        obtain ⟨⟨s, rfl, hs⟩, h2⟩ := hf
        cases r with
        | cons _ _ => exact (h2 : False).elim
        | nil => rw [hu]; simp [hs, litOf]
    · rename_i n e hu
      cases hk : kindsAt P D e with
      | none => rw [hk] at h; cases h
      | some ks1 =>
        rw [hk] at h
        simp only [Option.bind_some] at h
        split at h
        · rename_i hl
          cases h
          obtain ⟨Ls, e1, e2⟩ := lits_items (P := P) (D := D) (e := e) (fun cs hc => keyLits_of D e ks1 cs hk hc) cs n 0 (by simpa using hf)
          have hlen : cs.length = P.cellsOf t := by rw [hf.length, hl.2]; simp
          rw [hu]
          simp only [hlen, if_true]
          rw [← hl.1, List.range_eq_range', e1]
          simp only [Option.map_some, e2, Nat.zero_mul, List.drop_zero]
        · cases h
    · rename_i fs hu
      cases hk : kindsF P.cellsOf (kindsAt P D) fs.toList 0 with
      | none => rw [hk] at h; cases h
      | some ks1 =>
        rw [hk] at h
        simp only [Option.bind_some] at h
        split at h
        · rename_i hl
          cases h
          obtain ⟨Ls, e1, e2⟩ := lits_fields (P := P) (D := D) (fun t ks cs h hc => keyLits_of D t ks cs h hc) cs fs.toList 0 _ hk (by simpa using hf)
          have hlen : cs.length = P.cellsOf t := by rw [hf.length, hl]
          have hn : fs.all (·.name != "_") = true := by
            rw [Array.all_eq_true']
            have key : ∀ (l : List Field) (off : Nat) (ks : List Leaf), kindsF P.cellsOf (kindsAt P D) l off = some ks → ∀ f ∈ l, f.name ≠ "_" := fun l => by
              induction l with
              | nil => intro _ _ _ f hf; cases hf
              | cons g r ih =>
                intro off ks h f hf
                simp only [kindsF] at h
                split at h
                · rename_i hc
                  rcases List.mem_cons.1 hf with rfl | hf
                  · exact hc.2
                  · cases hk : kindsAt P D g.type with
                    | none => rw [hk] at h; cases h
                    | some k1 =>
                      rw [hk] at h
                      simp only [Option.bind_some] at h
                      split at h
                      · simp only [Option.map_eq_some_iff] at h
                        obtain ⟨k2, h3, _⟩ := h
                        exact ih _ _ h3 f hf
                      · cases h
                · cases h
            intro f hf
            simpa using key _ _ _ hk f (by simpa using hf)
          rw [hu]
          simp only [hlen, hn, true_and, if_true, and_self]
          rw [e1]
          simp only [Option.map_some, e2, List.drop_zero]
        · cases h
    · cases h
theorem kindsAt_len {P : Program} {d : Nat} {t : TypeId} {ks : List Leaf} (h : kindsAt P d t = some ks) (hw : isWide P t = true) : ks.length = P.cellsOf t := by
  cases d with
  | zero => cases h
  | succ d =>
    unfold kindsAt at h
    unfold isWide at hw
    split at h
    · rename_i hu; rw [hu] at hw; cases hw
    · rename_i hu; rw [hu] at hw; cases hw
    · rename_i hu; rw [hu] at hw; cases hw
    · cases hk : kindsAt P d _ with
      | none => rw [hk] at h; cases h
      | some k =>
        rw [hk] at h
        simp only [Option.bind_some] at h
        split at h
        · rename_i hl; cases h; rw [hl.2]; simp
        · cases h
    · cases hk : kindsF P.cellsOf (kindsAt P d) _ 0 with
      | none => rw [hk] at h; cases h
      | some k =>
        rw [hk] at h
        simp only [Option.bind_some] at h
        split at h
        · rename_i hl; cases h; exact hl
        · cases h
    · cases h
theorem bytesI_injL {s t : ByteArray} : bytesI s = bytesI t ↔ s.data.toList = t.data.toList := by
  constructor
  · intro h
    unfold bytesI at h
    exact (List.map_inj_right (fun a b e => UInt8.toNat_inj.1 (Int.ofNat.inj e))).1 h
  · intro h; unfold bytesI; rw [h]
theorem eqCK_cases : ∀ {ks : List Leaf} {l l' : List AV} {K : Bool → Prop}, eqCK ks l l' K → ∃ b, K b ∧ ∀ {I : Nat → Prop} {w : World} {m : M} {cs cs' : List Value}, RVL0 I w m l cs → RVL0 I w m l' cs' → Fits ks cs ∧ Fits ks cs' ∧ (b = true ↔ cs.map litOf = cs'.map litOf)
  | [], [], [], K, h => ⟨true, h, fun {I w m cs cs'} h1 h2 => by
    cases cs with
    | cons _ _ => exact h1.elim
    | nil => cases cs' with
      | cons _ _ => exact h2.elim
      | nil => exact ⟨trivial, trivial, by simp⟩⟩
  | .int q :: ks, v :: r, v' :: r', K, h => by
    cases v with
    | int k a => cases v' with
      | int k' b =>
        unfold eqCK at h
        split at h
        · rename_i e1 _
          split at h
          · rename_i e2 _
            subst e1; subst e2
            obtain ⟨t, hK, ht⟩ := eqCK_cases h
            refine ⟨_, hK, fun {I w m cs cs'} h1 h2 => ?_⟩
            cases cs with
            | nil => exact h1.elim
            | cons c cs => cases cs' with
              | nil => exact h2.elim
              | cons c' cs' =>
                obtain ⟨⟨rfl, n1⟩, h1⟩ := h1
                obtain ⟨⟨rfl, n2⟩, h2⟩ := h2
                obtain ⟨g1, g2, g3⟩ := ht h1 h2
                refine ⟨⟨⟨_, rfl, n1⟩, g1⟩, ⟨⟨_, rfl, n2⟩, g2⟩, ?_⟩
                simp only [List.map_cons, List.cons.injEq, Bool.and_eq_true, decide_eq_true_eq, g3, litOf, Lit.int.injEq, true_and]
          · exact h.elim
        · exact h.elim
      | _ => exact (h : False).elim
    | _ => exact (h : False).elim
  | .str :: ks, v :: r, v' :: r', K, h => by
    cases v with
    | str a => cases v' with
      | str b =>
        unfold eqCK at h
        obtain ⟨t, hK, ht⟩ := eqCK_cases h
        refine ⟨_, hK, fun {I w m cs cs'} h1 h2 => ?_⟩
        cases cs with
        | nil => exact h1.elim
        | cons c cs => cases cs' with
          | nil => exact h2.elim
          | cons c' cs' =>
            obtain ⟨⟨s, rfl, rfl, n1⟩, h1⟩ := h1
            obtain ⟨⟨s', rfl, rfl, n2⟩, h2⟩ := h2
            obtain ⟨g1, g2, g3⟩ := ht h1 h2
            refine ⟨⟨⟨_, rfl, n1⟩, g1⟩, ⟨⟨_, rfl, n2⟩, g2⟩, ?_⟩
            simp only [List.map_cons, List.cons.injEq, Bool.and_eq_true, decide_eq_true_eq, g3, litOf, Lit.string.injEq, bytesI_injL]
      | _ => exact (h : False).elim
    | _ => exact (h : False).elim
  | .bool :: ks, v :: r, v' :: r', K, h => by
    unfold eqCK at h
    split at h
    · rename_i a ea
      split at h
      · rename_i b eb
        obtain ⟨t, hK, ht⟩ := eqCK_cases h
        refine ⟨_, hK, fun {I w m cs cs'} h1 h2 => ?_⟩
        have tb : ∀ {v : AV} {a : Bool} {c : Value}, v.toB = some a → RV0 I w m v c → c = .bool a := fun {v a c} e h => by
          cases v <;> simp only [AV.toB, Option.some.injEq, reduceCtorEq] at e <;> subst e <;> exact h
        cases cs with
        | nil => exact h1.elim
        | cons c cs => cases cs' with
          | nil => exact h2.elim
          | cons c' cs' =>
            obtain ⟨h1a, h1⟩ := h1
            obtain ⟨h2a, h2⟩ := h2
            rw [tb ea h1a, tb eb h2a]
            obtain ⟨g1, g2, g3⟩ := ht h1 h2
            refine ⟨⟨⟨_, rfl⟩, g1⟩, ⟨⟨_, rfl⟩, g2⟩, ?_⟩
            simp only [List.map_cons, List.cons.injEq, Bool.and_eq_true, beq_iff_eq, g3, litOf, Lit.bool.injEq]
      · exact h.elim
    · exact h.elim
  | [], [], _ :: _, _, h => h.elim
  | [], _ :: _, _, _, h => h.elim
  | .int _ :: _, [], _, _, h => h.elim
  | .str :: _, [], _, _, h => h.elim
  | .bool :: _, [], _, _, h => h.elim
  | .bool :: _, _ :: _, [], _, h => h.elim
  | .int _ :: _, v :: _, [], _, h => by cases v <;> exact (h : False).elim
  | .str :: _, v :: _, [], _, h => by cases v <;> exact (h : False).elim
theorem eqs_run {P : Program} {w : World} {xt : TypeId} {ks : List Leaf} {cs cs' : Array Value} {b neg : Bool} {x y : Operand} (hk : P.keyTypeAt 8 xt = true) (hw : isWide P xt = true) (hks : kindsAt P 8 xt = some ks) (hg : P.eqGuardType P.depth xt = false)
    (h1 : Fits ks cs.toList) (h2 : Fits ks cs'.toList) (hb : b = true ↔ cs.toList.map litOf = cs'.toList.map litOf) :
    (do eqGuard (if neg then .neq else .eql) xt x y (.agg cs) (.agg cs'); binOp (if neg then .neq else .eql) xt (.agg cs) (.agg cs')).run P w = .ok (.bool (match neg with | true => !b | false => b)) w := by
  have hl := kindsAt_len hks hw
  have fm : ∀ {c : Array Value}, Fits ks c.toList → (Value.agg c).formed P xt = true := fun {c} h => by
    unfold isWide at hw
    have hs : c.size = P.cellsOf xt := by rw [← hl, ← h.length]; simp
    simp only [Value.formed]
    split at hw
    · rename_i e; rw [e]; simp [hs]
    · rename_i e; rw [e]; simp [hs]
    · cases hw
  obtain ⟨r, hr, hri⟩ := run_equalIn_deep (P := P) 9992 8 xt hk w 8 8 (.agg cs) (.agg cs') _ _ (fm h1) (fm h2) (keyLits_of 8 xt ks cs.toList hks h1) (keyLits_of 8 xt ks cs'.toList hks h2)
  have hrb : r = b := by
    cases r <;> cases b <;> first | rfl | (have := hri.1 rfl; have := hb.2 this; cases this) | (have := hb.1 rfl; have := hri.2 this; cases this)
  subst hrb
  have hr' : (Op.equalIn 10000 xt (.agg cs) (.agg cs')).run P w = .ok r w := hr
  cases neg
  · show (do eqGuard .eql xt x y (.agg cs) (.agg cs'); binOp .eql xt (.agg cs) (.agg cs') : Sem Value).run P w = _
    rw [Sem.run_bind, run_eqGuard_agg w .eql xt x y cs cs' hg]
    simp only [Result.andThen_ok]
    rw [run_eql_struct, hr']; rfl
  · show (do eqGuard .neq xt x y (.agg cs) (.agg cs'); binOp .neq xt (.agg cs) (.agg cs') : Sem Value).run P w = _
    rw [Sem.run_bind, run_eqGuard_agg w .neq xt x y cs cs' hg]
    simp only [Result.andThen_ok]
    rw [run_neq_struct, hr']; rfl
theorem runeL_eq (s : ByteArray) (i : Nat) : Utf8.decode s i = runeL (bytesI s) i := by
  have e : ∀ k, (s.get! (i + k)).toNat = ((bytesI s).getD (i + k) 0).toNat := fun k => by
    unfold bytesI
    rw [List.getD_eq_getElem?_getD, List.getElem?_map]
    show (s.data[i + k]!).toNat = _
    rw [getElem!_def, ← Array.getElem?_toList]
    cases s.data.toList[i + k]? <;> rfl
  have l : (bytesI s).length = s.size := bytesI_len s
  simp only [Utf8.decode, runeL, e, l]
theorem rune_le (s : List Int) (i : Nat) : (runeL s i).1 ≤ 1114111 := by
  have hv : ∀ c : Nat, Utf8.valid (c : Int) = true → c ≤ 1114111 := fun c h => by
    simp only [Utf8.valid, Bool.or_eq_true, Bool.and_eq_true, decide_eq_true_eq] at h; omega
  unfold runeL
  simp only []
  split
  · simp only []; omega
  · split
    · split
      · simp only []; omega
      · simp only [Utf8.runeError]; omega
    · split
      · split
        · rename_i h; simp only [Bool.and_eq_true] at h; exact hv _ h.2
        · simp only [Utf8.runeError]; omega
      · split
        · split
          · rename_i h; simp only [Bool.and_eq_true] at h; exact hv _ h.2
          · simp only [Utf8.runeError]; omega
        · simp only [Utf8.runeError]; omega
end Go.Eng
