/- Parts of the proof: EEqs. No condition. -/
import Derived.Test.YtimkdohmkfjfaaaGreatDoorXK01
import Derived.ChangeKeysEq
import Derived.DeepKeys
import Derived.Laws.StructEq
namespace Go.Eng
set_option linter.unusedVariables false
set_option linter.unusedSimpArgs false
open Go.RowKit
def inKB (k:IntKind) (n:Int):Bool:=decide (k.min<=n) && decide (n<=k.max)
theorem zds_ {k:IntKind} {n:Int} (h:inKB k n=true):inK k n:=by
 simp only [inKB,Bool.and_eq_true,decide_eq_true_eq] at h;exact h
theorem Z9_ (k:IntKind) (n:Int):inK k (k.wrap n):=by
 cases k<;>simp [inK,IntKind.wrap,IntKind.min,IntKind.max,IntKind.signed,IntKind.bits]<;>(try split)<;>omega
theorem WL_ {k:IntKind} {n:Int} (h:inK k n):k.wrap n=n:=by
 cases k<;>simp [inK,IntKind.wrap,IntKind.min,IntKind.max,IntKind.signed,IntKind.bits] at h ⊢<;>(try split)<;>omega
theorem kN_ {k:IntKind} {n:Int} {K:Int->Prop} (h:ari k n K):K (k.wrap n):=by
 refine h _ ⟨fun h1 h2=>?_,fun h=>h⟩
 rw [WL_ h1];exact h2
theorem zL_ {x y:AV} {K:IntKind->Int->Int->Prop} (h:ky_ x y K):∃ k a b,x=.int k a/\y=.int k b/\K k a b:=by
 unfold ky_ at h
 split at h
 ·split at h
  ·rename_i hk _;subst hk;exact ⟨_,_,_,rfl,rfl,h⟩
  ·exact h.elim
 ·exact h.elim
theorem ZP_ {t' t:Ty} {x:List t'.den} {K:List t.den->Prop} (h:J6_ t' t x K):∃ e:t'=t,K (e ▸ x):=by
 exact h _ ⟨fun e k=>⟨e,k⟩⟩
theorem zaY_ {t:Ty} {x:List t.den} {K:List t.den->Prop} (h:K x):J6_ t t x K:=fun _ k=>za_ k h
theorem Hw_:∀ {t:Ty} {l:List AV} {K:t.den->List AV->Prop},t.ofK l K ↔ ∃ x r,t.ofCells l=some (x,r)/\K x r:=fun {t}=>by
 induction t with
 | cons a b iha ihb=>
   intro l K
   unfold Ty.ofK Ty.ofCells
   rw [iha]
   constructor
   ·rintro ⟨x,r,h1,h2⟩
    obtain ⟨y,r',h3,h4⟩:=ihb.1 h2
    exact ⟨(x,y),r',by simp only [h1,h3],h4⟩
   ·rintro ⟨x,r,h1,h2⟩
    split at h1
    ·rename_i x' r' e1
     split at h1
     ·rename_i y' r2 e2
      cases h1
      exact ⟨x',r',e1,ihb.2 ⟨y',r,e2,h2⟩⟩
     ·cases h1
    ·cases h1
 | int k=>
   intro l K
   cases l with
   | nil=>exact ⟨fun h=>False.elim h,fun ⟨_,_,e,_⟩=>by cases e⟩
   | cons v r=>
     cases v with
     | int k' n=>
       unfold Ty.ofK Ty.ofCells
       cases decEq k k' with
       | isTrue=>exact ⟨fun h=>⟨n,r,rfl,h⟩,fun ⟨x,r,e,h⟩=>by cases e;exact h⟩
       | isFalse=>exact ⟨fun h=>False.elim h,fun ⟨_,_,e,_⟩=>by cases e⟩
     | _=>exact ⟨fun h=>False.elim h,fun ⟨_,_,e,_⟩=>by cases e⟩
 | bool=>
   intro l K
   cases l with
   | nil=>exact ⟨fun h=>False.elim h,fun ⟨_,_,e,_⟩=>by cases e⟩
   | cons v r=>
     cases v with
     | bool b=>exact ⟨fun h=>⟨b,r,rfl,h⟩,fun ⟨x,r,e,h⟩=>by cases e;exact h⟩
     | kb b=>exact ⟨fun h=>⟨b,r,rfl,h⟩,fun ⟨x,r,e,h⟩=>by cases e;exact h⟩
     | _=>exact ⟨fun h=>False.elim h,fun ⟨_,_,e,_⟩=>by cases e⟩
 | str=>
   intro l K
   cases l with
   | nil=>exact ⟨fun h=>False.elim h,fun ⟨_,_,e,_⟩=>by cases e⟩
   | cons v r=>
     cases v with
     | str b=>exact ⟨fun h=>⟨b,r,rfl,h⟩,fun ⟨x,r,e,h⟩=>by cases e;exact h⟩
     | _=>exact ⟨fun h=>False.elim h,fun ⟨_,_,e,_⟩=>by cases e⟩
 | nil=>intro l K;unfold Ty.ofK Ty.ofCells;exact ⟨fun h=>⟨(),l,rfl,h⟩,fun ⟨x,r,e,h⟩=>by cases e;exact h⟩
 | sl t _=>
   intro l K
   cases l with
   | nil=>exact ⟨fun h=>False.elim h,fun ⟨_,_,e,_⟩=>by cases e⟩
   | cons v r=>
     cases v with
     | nils=>exact ⟨fun h=>⟨[],r,rfl,h⟩,fun ⟨x,r,e,h⟩=>by cases e;exact h⟩
     | imm t' x=>
       unfold Ty.ofK Ty.ofCells
       constructor
       ·intro h
        obtain ⟨rfl,h⟩:=ZP_ h
        exact ⟨x,r,by split<;>first | rfl | (rename_i hd _;exact absurd rfl hd),h⟩
       ·rintro ⟨y,r',e,h⟩
        split at e
        ·rename_i hd _
         subst hd
         cases e
         exact zaY_ h
        ·cases e
     | _=>exact ⟨fun h=>False.elim h,fun ⟨_,_,e,_⟩=>by cases e⟩
theorem JD_ {t:Ty} {l:List AV} {K:t.den->Prop} (h:t.oneQ l K):∃ x,t.one l=some x/\K x:=by
 unfold Ty.oneQ at h
 obtain ⟨x,r,h1,h2⟩:=Hw_.1 h
 cases r with
 | nil=>exact ⟨x,by unfold Ty.one;rw [h1],h2⟩
 | cons=>exact h2.elim
theorem jc_ {t:Ty}:∀ {n:Nat} {l:List AV} {K:List t.den->Prop},t.allK n l K ↔ ∃ x,t.all n l=some x/\K x
 | 0,[],K=>by simp [Ty.allK,Ty.all]
 | 0,_ :: _,K=>by simp [Ty.allK,Ty.all]
 | n+1,l,K=>by
   unfold Ty.allK Ty.all
   rw [Hw_]
   constructor
   ·rintro ⟨x,r,h1,h2⟩
    obtain ⟨y,h3,h4⟩:=jc_.1 h2
    exact ⟨x :: y,by simp only [h1,h3],h4⟩
   ·rintro ⟨x,h1,h2⟩
    split at h1
    ·rename_i x' r' e1
     split at h1
     ·rename_i y' e2
      cases h1
      exact ⟨x',r',e1,jc_.2 ⟨y',e2,h2⟩⟩
     ·cases h1
    ·cases h1
def vc_:Value->AV->Bool
 | .int k n,.int k' n'=>k == k' && n == n' && inKB k n
 | .bool b,.kb b'=>b == b'
 | .bool b,.bool b'=>b == b'
 | .string s,.str l=>zO_ s == l && decide (s.size<=maxLen)
 | .slice none 0 0,.imm _ []=>true
 | .slice none 0 0,.nils=>true
 | .pointer none,.nilp=>true
 | .map none,.nilm=>true
 | .nilFunc,.undef=>true
 | _,_=>false
def zF_:Operand->Opd->Bool
 | .tmp i,.t j=>i == j
 | .const v,.c a=>vc_ v a
 | .func f,.f i=>f == i
 | _,_=>false
def Zd_:List Operand->List Opd->Bool
 | [],[]=>true
 | x :: r,y :: l=>zF_ x y && Zd_ r l
 | _,_=>false
def Hv_:Option Operand->Option Opd->Bool
 | none,none=>true
 | some x,some y=>zF_ x y
 | _,_=>false
def K6_ (P:Program) (t:TypeId) (n:Nat):Bool:=match P.info? t with | some i=>i.size == n | none=>false
def WZ_ (P:Program) (t:TypeId) (n:Nat):Bool:=match P.info? t with | some i=>i.bytes == n | none=>false
theorem qT_ {P:Program} {t:TypeId} {n:Nat} (h:K6_ P t n=true):∃ i,P.info? t=some i/\i.size=n:=by
 unfold K6_ at h;split at h
 ·rename_i i hi;exact ⟨i,hi,by simpa using h⟩
 ·cases h
theorem JZ_ {P:Program} {t:TypeId} {n:Nat} (h:WZ_ P t n=true):∃ i,P.info? t=some i/\i.bytes=n:=by
 unfold WZ_ at h;split at h
 ·rename_i i hi;exact ⟨i,hi,by simpa using h⟩
 ·cases h
def aggB:TypeDesc->Bool | .struct _=>true | .array _ _=>true | _=>false
def nOk (P:Program) (t:TypeId) (n:Option Nat):Bool:=
 match P.underlying t,P.info? t with
 | some d,some i=>match aggB d with | true=>n == some i.size | false=>n == none && i.size == 1
 | _,_=>false
def kT_ (place:Nat->Option (Nat × Nat)):List (Nat × Operand)->List (Nat × Nat × Opd)->Bool
 | [],[]=>true
 | (i,x) :: r,(off,size,y) :: l=>(match place i with | some (o,n)=>o == off && n == size | none=>false) && zF_ x y && kT_ place r l
 | _,_=>false
def Je_:List Value->List AV->Bool
 | [],[]=>true
 | v :: r,a :: l=>vc_ v a && Je_ r l
 | _,_=>false
def uX_ (P:Program) (t:TypeId) (z:List AV):Bool:=
 match P.info? t with | some i=>(match i.zero with | some v=>Je_ v.cells.toList z | none=>false) | none=>false
def xn_ (P:Program) (t:TypeId) (ty:Ty) (z:ty.den):Bool:=
 match P.info? t with
 | some i=>(match i.zero with
   | some v=>(match ty.one (ty.cells z) with | some _=>true | none=>false) && Je_ v.cells.toList (ty.cells z)
   | none=>false)
 | none=>false
def YW_ (P:Program) (t:TypeId) (ty:Ty):Bool:=match P.info? t with
 | some i=>(match i.zero with
   | some v=>(match v with | .agg _=>true | _=>false) == b2_ ty
   | none=>false)
 | none=>false
def hB_ (P:Program) (t:TypeId):Bool:=match P.underlying t with | some .bool=>true | _=>false
def zaj_ (P:Program) (t:TypeId):Bool:=match P.underlying t with | some (.pointer _)=>true | _=>false
def UH_ (P:Program) (t:TypeId):Bool:=match P.underlying t with | some (.map _ _)=>true | _=>false
def j8_ (P:Program) (t:TypeId):Bool:=match P.underlying t with | some (.slice _)=>true | _=>false
def vV_ (P:Program) (t:TypeId):Bool:=match P.underlying t with | some .string=>true | _=>false
def Kp_ (P:Program) (t:TypeId):Option TypeId:=match P.underlying t with | some (.slice e)=>some e | _=>none
theorem qt_ {P:Program} {t e:TypeId} (h:Kp_ P t=some e):P.underlying t=some (.slice e):=by
 unfold Kp_ at h;split at h
 ·cases h;assumption
 ·cases h
theorem bE_ {P:Program} {t:TypeId} (h:hB_ P t=true):P.underlying t=some .bool:=by unfold hB_ at h;split at h<;>first | assumption | cases h
theorem Wi_ {P:Program} {t:TypeId} (h:vV_ P t=true):P.underlying t=some .string:=by unfold vV_ at h;split at h<;>first | assumption | cases h
theorem zai_ {P:Program} {t:TypeId} (h:zaj_ P t=true):∃ e,P.underlying t=some (.pointer e):=by unfold zaj_ at h;split at h<;>first | exact ⟨_,by assumption⟩ | cases h
theorem g7_ {P:Program} {t:TypeId} (h:UH_ P t=true):∃ k e,P.underlying t=some (.map k e):=by unfold UH_ at h;split at h<;>first | exact ⟨_,_,by assumption⟩ | cases h
theorem JN_ {P:Program} {t:TypeId} (h:j8_ P t=true):∃ e,P.underlying t=some (.slice e):=by unfold j8_ at h;split at h<;>first | exact ⟨_,by assumption⟩ | cases h
def hq_:Operand->Bool
 | .const (.slice none 0 0)=>true
 | _=>false
def zak_ (P:Program) (t:TypeId):Bool:=match P.underlying t with | some (.int _)=>true | _=>false
def JL_ (cells:TypeId->Nat) (rec:TypeId->Option (List Leaf)):List Field->Nat->Option (List Leaf)
 | [],_=>some []
 | f :: r, off => if f.offset = off /\ f.name ≠ "_" then (rec f.type).bind fun ks => if ks.length = cells f.type then (JL_ cells rec r (off + ks.length)).map (ks ++ ·) else none else none
def qW_ (P:Program):Nat->TypeId->Option (List Leaf)
 | 0,_=>none
 | d+1,t=>match P.underlying t with
   | some .bool=>some [.bool]
   | some (.int k)=>some [.int k]
   | some .string=>some [.str]
   | some (.array n e)=>(qW_ P d e).bind fun ks=>if ks.length=P.cellsOf e/\P.cellsOf t=n*ks.length then some (List.replicate n ks).flatten else none
   | some (.struct fs)=>(JL_ P.cellsOf (qW_ P d) fs.toList 0).bind fun ks=>if ks.length=P.cellsOf t then some ks else none
   | _=>none
def UG_ (P:Program) (t:TypeId):Bool:=match P.underlying t with | some (.array _ _) | some (.struct _)=>true | _=>false
def kc_:Ty->Option (List Leaf)
 | .int k=>some [.int k]
 | .bool=>some [.bool]
 | .nil=>some []
 | .cons a b=>match kc_ a,kc_ b with | some x,some y=>some (x++y) | _,_=>none
 | _=>none
def HI_ (P:Program) (t:TypeId) (ty:Ty):Bool:=match ty with
 | .int k=>(match P.underlying t with | some (.int k')=>k == k' | _=>false)
 | .cons a b=>UG_ P t && P.keyTypeAt 8 t && (match kc_ (.cons a b),qW_ P 8 t with | some x,some y=>decide (x=y) | _,_=>false)
 | _=>false
def zy_ (P:Program) (o:Op) (io:IOp):Bool:=
 match io with
 | .mov y=>match o with | .move x=>zF_ x y | .assign x=>zF_ x y | _=>false
 | .bin op' x' y'=>match o with | .binOp op _ x y _=>op == op' && zF_ x x' && zF_ y y' | _=>false
 | .eqb neg x' y'=>match o with
   | .binOp op xt x y _=>op == (if neg then .neq else .eql) && zF_ x x' && zF_ y y' && hB_ P xt
   | _=>false
 | .eqp neg x' y'=>match o with
   | .binOp op xt x y _=>op == (if neg then .neq else .eql) && zF_ x x' && zF_ y y' && zaj_ P xt
   | _=>false
 | .eqn neg x' y'=>match o with
   | .binOp op xt x y _=>op == (if neg then .neq else .eql) && zF_ x x' && zF_ y y' && UH_ P xt
   | _=>false
 | .isnil neg x'=>match o with
   | .binOp op xt x y _=>op == (if neg then .neq else .eql) && zF_ x x' && hq_ y && j8_ P xt
   | _=>false
 | .un op' x'=>match o with | .unOp op _ x=>op == op' && zF_ x x' | _=>false
 | .conv k x'=>match o with
   | .convert src dst x=>zF_ x x' && (P.underlying src).isSome && (match P.underlying dst with | some (.int k')=>k == k' | _=>false)
   | _=>false
 | .pick c' x' y'=>match o with | .pick c x y=>zF_ c c' && zF_ x x' && zF_ y y' | _=>false
 | .len x'=>match o with
   | .call ⟨.builtin .len,args,ts⟩=>Zd_ args.toList [x'] && (match ts[0]? with | some t=>j8_ P t | none=>false)
   | _=>false
 | .slen x'=>match o with
   | .call ⟨.builtin .len,args,ts⟩=>Zd_ args.toList [x'] && (match ts[0]? with | some t=>vV_ P t | none=>false)
   | _=>false
 | .minmax mx x' y'=>match o with
   | .call ⟨.builtin b,args,_⟩=>b == (if mx then .max else .min) && Zd_ args.toList [x',y']
   | _=>false
 | .fieldAddr off a'=>match o with
   | .fieldAddr s a f=>zF_ a a' && (match P.underlying s with
     | some (.struct fs)=>(match fs[f]? with | some d=>d.offset == off && (match P.info? d.type with | some i=>i.size != 0 | none=>false) | none=>false)
     | _=>false)
   | _=>false
 | .indexSl size a' i'=>match o with
   | .indexAddr t a i=>zF_ a a' && zF_ i i' && (match Kp_ P t with | some e=>K6_ P e size | none=>false)
   | _=>false
 | .field n off x'=>match o with
   | .field s x f=>zF_ x x' && (match P.underlying s with
     | some (.struct fs)=>(match fs[f]? with | some d=>d.offset == off && nOk P d.type n | none=>false)
     | _=>false)
   | _=>false
 | .sindex x' i'=>match o with
   | .index t x i=>zF_ x x' && zF_ i i' && vV_ P t
   | _=>false
 | .build z ps=>match o with
   | .build t z9_=>uX_ P t z && (match P.underlying t with
     | some (.struct fs)=>(fs.toList.all fun f=>(P.info? f.type).isSome) && kT_ (fun i=>(fs[i]?).map fun f=>(f.offset,P.cellsOf f.type)) z9_.toList ps
     | some (.array _ e)=>(P.info? e).isSome && kT_ (fun i=>some (i*P.cellsOf e,P.cellsOf e)) z9_.toList ps
     | _=>false)
   | _=>false
 | .buildAll tot ps=>match o with
   | .build t z9_=>(match P.info? t with | some i=>(match i.zero with | some v=>v.cells.size == tot | none=>false) | none=>false) && (match P.underlying t with
     | some (.struct fs)=>(fs.toList.all fun f=>(P.info? f.type).isSome) && kT_ (fun i=>(fs[i]?).map fun f=>(f.offset,P.cellsOf f.type)) z9_.toList ps
     | some (.array _ e)=>(P.info? e).isSome && kT_ (fun i=>some (i*P.cellsOf e,P.cellsOf e)) z9_.toList ps
     | _=>false)
   | _=>false
 | .slice size x' lo' hi' mx'=>match o with
   | .slice t x lo hi mx=>zF_ x x' && Hv_ lo lo' && Hv_ hi hi' && Hv_ mx mx' && (match Kp_ P t with | some e=>K6_ P e size | none=>false)
   | _=>false
 | .extract x' i'=>match o with | .extract x i=>i == i' && zF_ x x' | _=>false
 | .nilck x'=>match o with | .nilCheck x=>zF_ x x' | _=>false
 | .mkfn f first' cap'=>match o with | .makeFunc fn first cap=>(match fn with | .func g=>g == f | _=>false) && Zd_ first.toList first' && Zd_ cap.toList cap' | _=>false
 | .box z=>match o with
   | .alloc t=>uX_ P t z
   | _=>false
 | .boxv x'=>match o with | .box _ x=>zF_ x x' | _=>false
 | .load n a'=>match o with | .load t a=>nOk P t n && zF_ a a' | _=>false
 | .store n a' x'=>match o with | .store t a x=>K6_ P t n && zF_ a a' && zF_ x x' | _=>false
 | .sliceAll ty n ps=>match o with
   | .buildSlice t k z9_=>k == n && (match Kp_ P t with
     | some e=>K6_ P e ty.size && decide (n*ty.size<=16777216) && decide (n<=16777216) && (match P.info? e with
        | some i=>i.zero.isSome
        | none=>false) && kT_ (fun i=>some (i*P.cellsOf e,P.cellsOf e)) z9_.toList ps && decide (0 < n*ty.size)
     | none=>false)
   | _=>false
 | .slice0 ty=>match o with
   | .buildSlice t k z9_=>k == 0 && z9_.isEmpty && (match Kp_ P t with | some e=>K6_ P e ty.size | none=>false)
   | _=>false
 | .mkrow ty bytes z n' c'=>match o with
   | .makeSlice t n c=>zF_ n n' && zF_ c c' && (match Kp_ P t with | some e=>K6_ P e ty.size && WZ_ P e bytes && xn_ P e ty z | none=>false)
   | _=>false
 | .append ty bytes x' y'=>match o with
   | .call ⟨.builtin .append,args,ts⟩=>Zd_ args.toList [x',y'] && (match ts.toList with
     | [t,u]=>(match Kp_ P t with | some e=>K6_ P e ty.size && WZ_ P e bytes && decide (0 < bytes) && decide (0 < ty.size) && (match P.info? e with | some i=>(match i.zero with | some v=>v.cells.size == ty.size | none=>false) | none=>false) | none=>false) && j8_ P u
     | _=>false)
   | _=>false
 | .appendJ ty bytes x' y'=>match o with
   | .call ⟨.builtin .append,args,ts⟩=>Zd_ args.toList [x',y'] && (match ts.toList with
     | [t,u]=>(match Kp_ P t with | some e=>K6_ P e ty.size && WZ_ P e bytes && decide (0 < bytes) && decide (0 < ty.size) && (match P.info? e with | some i=>(match i.zero with | some v=>v.cells.size == ty.size | none=>false) | none=>false) | none=>false) && j8_ P u
     | _=>false)
   | _=>false
 | .appendz ty bytes z x' n'=>match o with
   | .call ⟨.builtin .append,args,ts⟩=>Zd_ args.toList [x',n'] && (match ts.toList with
     | [t,u]=>(match Kp_ P t with | some e=>K6_ P e ty.size && WZ_ P e bytes && decide (0 < bytes) && decide (0 < ty.size) && xn_ P e ty z | none=>false) && zak_ P u
     | _=>false)
   | _=>false
 | .s2b x'=>match o with
   | .convert src dst x=>zF_ x x' && vV_ P src && (match Kp_ P dst with | some e=>(match P.underlying e with | some (.int .u8)=>true | _=>false) | none=>false)
   | _=>false
 | .b2s x'=>match o with
   | .convert src dst x=>zF_ x x' && vV_ P dst && (match Kp_ P src with | some e=>(match P.underlying e with | some (.int .u8)=>true | _=>false) | none=>false)
   | _=>false
 | .mkmap _ _=>match o with
   | .makeMap _ r=>r.isNone
   | _=>false
 | .mlen x'=>match o with
   | .call ⟨.builtin .len,args,ts⟩=>Zd_ args.toList [x'] && (match ts[0]? with | some t=>UH_ P t | none=>false)
   | _=>false
 | .mget kt vt z ok' x' k'=>match o with
   | .lookup t x k ok=>ok == ok' && zF_ x x' && zF_ k k' && (match P.underlying t with | some (.map a b)=>HI_ P a kt && xn_ P b vt z && YW_ P b vt | _=>false)
   | _=>false
 | .mput kt _ x' k' v'=>match o with
   | .mapUpdate t x k v=>zF_ x x' && zF_ k k' && zF_ v v' && (match P.underlying t with | some (.map a _)=>HI_ P a kt | _=>false)
   | _=>false
 | .call _ f' args'=>match o with | .call ⟨.value f,args,_⟩=>zF_ f f' && Zd_ args.toList args' | _=>false
 | .calln f' args'=>match o with | .call ⟨.value f,args,_⟩=>zF_ f f' && Zd_ args.toList args' | _=>false
 | .callF f' args'=>match o with | .call ⟨.value f,args,_⟩=>zF_ f f' && Zd_ args.toList args' | _=>false
 | .callL f' args'=>match o with | .call ⟨.value f,args,_⟩=>zF_ f f' && Zd_ args.toList args' | _=>false
 | .bad=>true
 | .rngs x'=>match o with | .range t x=>zF_ x x' && vV_ P t | _=>false
 | .nxts x'=>match o with | .next x true=>zF_ x x' | _=>false
 | .nilrow _=>match o with | .move x=>hq_ x | .assign x=>hq_ x | _=>false
def qK_:Option Opd->List Opd | none=>[] | some x=>[x]
def IOp.opds:IOp->List Opd
 | .mov x | .un _ x | .conv _ x | .len x | .slen x | .fieldAddr _ x | .field _ _ x | .extract x _ | .nilck x | .boxv x | .load _ x | .s2b x | .b2s x | .mlen x | .isnil _ x | .rngs x | .nxts x=>[x]
 | .bin _ x y | .eqb _ x y | .eqp _ x y | .eqn _ x y | .minmax _ x y | .indexSl _ x y | .sindex x y | .store _ x y | .append _ _ x y | .appendz _ _ _ x y | .mkrow _ _ _ x y | .mget _ _ _ _ x y=>[x,y]
 | .pick x y z | .mput _ _ x y z=>[x,y,z]
 | .build _ ps | .buildAll _ ps | .sliceAll _ _ ps=>ps.map (·.2.2)
 | .slice _ x lo hi mx=>[x]++qK_ lo++qK_ hi++qK_ mx
 | .mkfn _ l c=>l++c
 | .box _ | .slice0 _ | .mkmap _ _ | .bad | .nilrow _=>[]
 | .call _ f args=>f :: args
 | .calln f args=>f :: args
 | .callF f args=>f :: args
 | .appendJ _ _ x y=>[x,y]
 | .callL f args=>f :: args
def FOn (L:List Opd) (fr:zd_) (I:Nat->Prop) (w:World) (m:M) (a:Act):Prop:=∀ i,Opd.t i ∈ L->RV I w m (fr.get i) (a.tmps.getD i undef)
def AV.ids0:AV->List Nat
 | .ptr i _ | .own i | .view i _ _ | .rptr i _ _ | .mapv i | .bview i _ _ _ | .fnp _ i | .jsl i _ _ | .jptr i _ _ _ _=>[i]
 | _=>[]
def zH_ (l:List AV):List Nat:=l.flatMap AV.ids0
def AV.ids1:AV->List Nat
 | .agg l=>zH_ l
 | v=>v.ids0
def Qw_ (l:List AV):List Nat:=l.flatMap AV.ids1
def AV.ids:AV->List Nat
 | .fn _ l c=>Qw_ l++Qw_ c
 | .tup l=>Qw_ l
 | v=>v.ids1
def zZ_ (L:List Opd) (fr:zd_):List Nat:=L.flatMap fun x=>(x.ev fr).ids
theorem zD_ {L:List Opd} {fr:zd_} {x:Opd} {v:AV} (hx:x ∈ L) (e:x.ev fr=v):∀ i ∈ v.ids,i ∈ zZ_ L fr:=fun i hi=>by
 unfold zZ_;exact List.mem_flatMap.2 ⟨x,hx,by rw [e];exact hi⟩
theorem Vf_ {v:AV} {c:List AV} (h:v.flat=some c):∀ i ∈ zH_ c,i ∈ v.ids:=by
 by_cases hf:∃ f l c,v=.fn f l c
 ·obtain ⟨f,l,cp,rfl⟩:=hf
  have h:Ve_ f l cp=some c:=h
  unfold Ve_ at h
  split at h
  ·split at h
   ·split at h
    ·cases h;intro i hi;simpa [zH_,AV.ids,AV.ids1,AV.ids0,Qw_] using hi
    ·cases h
   ·cases h
  ·cases h
 ·cases v<;>first | exact absurd ⟨_,_,_,rfl⟩ hf | (simp only [AV.flat,Option.some.injEq,reduceCtorEq] at h<;>subst h<;>intro i hi<;>simpa [zH_,AV.ids,AV.ids1] using hi)
section ops
variable {P:Program} {o:Oper} {I:Nat->Prop} {w:World} {m:M} {a:Act} {fr:zd_} {L:List Opd}
theorem Gx_ {v:Value} {x:AV} (h:vc_ v x=true):RV0 I w m x v:=by
 unfold vc_ at h
 split at h
 ·simp only [Bool.and_eq_true,beq_iff_eq] at h
  obtain ⟨⟨rfl,rfl⟩,h⟩:=h
  exact ⟨rfl,zds_ h⟩
 ·simp only [beq_iff_eq] at h;subst h;rfl
 ·simp only [beq_iff_eq] at h;subst h;rfl
 ·simp only [Bool.and_eq_true,beq_iff_eq,decide_eq_true_eq] at h
  exact ⟨_,rfl,h.1.symm,h.2⟩
 ·exact ⟨none,0,0,rfl,rfl,Nat.le_refl _,Nat.zero_le _,fun h=>absurd h (by omega)⟩
 ·rfl
 ·rfl
 ·rfl
 ·rfl
 ·cases h
theorem Jd_:∀ {r:List Value} {l:List AV},Je_ r l=true->z0_ I w m l r
 | [],[],_=>trivial
 | v :: r,a :: l,h=>by
   simp only [Je_,Bool.and_eq_true] at h
   exact ⟨Gx_ h.1,Jd_ h.2⟩
 | [],_ :: _,h=>by cases h
 | _ :: _,[],h=>by cases h
theorem FOn.rv (hf:FOn L fr I w m a) {x:Operand} {y:Opd} (hm:y ∈ L) (h:zF_ x y=true):RV I w m (y.ev fr) (a.eval x):=by
 unfold zF_ at h
 split at h
 ·simp only [beq_iff_eq] at h;subst h;exact hf _ hm
 ·exact RV_0 (Gx_ h)
 ·simp only [beq_iff_eq] at h;subst h;exact ⟨#[],#[],rfl,trivial,trivial⟩
 ·cases h
theorem FOn.mono {L':List Opd} (hf:FOn L fr I w m a) (h:∀ x ∈ L',x ∈ L):FOn L' fr I w m a:=fun i hi=>hf i (h _ hi)
theorem zq_ {k:IntKind} {n:Int} {v:Value} (h:RV I w m (.int k n) v):v=.int k n/\inK k n:=h
theorem zbw_ {b:Bool} {v:Value} (h:RV I w m (.bool b) v):v=.bool b:=h
theorem zd0_ {b:Bool} {v:Value} (h:RV I w m (.kb b) v):v=.bool b:=h
theorem Bn_ {a:AV} {b:Bool} {v:Value} (h:RV I w m a v) (e:a.toB=some b):v=.bool b:=by
 cases a<;>simp only [AV.toB,Option.some.injEq,reduceCtorEq] at e
 ·subst e;exact h
 ·subst e;exact h
theorem ZN_ {k:IntKind} {n:Int} (h:inK k n):RV I w m (.int k n) (.int k n):=⟨rfl,h⟩
theorem qB_ {b:Bool}:RV I w m (.bool b) (.bool b):=rfl
theorem vQ_ {b:Bool}:RV I w m (.kb b) (.bool b):=rfl
theorem KU_ {n:Nat} (h:n<=maxLen):inK .i64 n:=by
 simp only [inK,IntKind.min,IntKind.max,IntKind.signed,IntKind.bits,if_true]
 unfold maxLen at h
 constructor<;>simp<;>omega
theorem zam_ {k:IntKind} {a b:Int} (ha:inK k a) (hb:b ≠ 0):inK k (a.tmod b):=by
 have h2:a.tmod b<=a.natAbs/\-(a.natAbs:Int)<=a.tmod b:=by
  have:=Int.natAbs_tmod a b
  have h3:=Nat.mod_le a.natAbs b.natAbs
  omega
 have h4:0<=a->0<=a.tmod b:=fun h=>Int.tmod_nonneg b h
 have h5:a<=0->a.tmod b<=0:=fun h=>by
  have:=Int.tmod_nonneg b (show 0<=-a by omega)
  rw [Int.neg_tmod] at this;omega
 cases k<;>simp only [inK,IntKind.min,IntKind.max,IntKind.signed,IntKind.bits] at ha ⊢<;>simp only [if_true,Bool.false_eq_true,if_false,Nat.reduceSub,Int.reducePow] at ha ⊢<;>omega
theorem zan_ {k:IntKind} {a:Int} {n:Nat} (ha:inK k a):inK k (a.fdiv (2 ^ n)):=by
 have hp:(0:Int) < 2 ^ n:=Int.pow_pos (by omega)
 have e:a.fdiv (2 ^ n)=a / 2 ^ n:=Int.fdiv_eq_ediv_of_nonneg a (Int.le_of_lt hp)
 rw [e]
 have h1:0<=a->0<=a / 2 ^ n/\a / 2 ^ n<=a:=fun h=>⟨Int.ediv_nonneg h (Int.le_of_lt hp),Int.ediv_le_self _ h⟩
 have h2:a < 0->a<=a / 2 ^ n/\a / 2 ^ n < 0:=fun h=>by
  refine ⟨?_,Int.ediv_neg_of_neg_of_pos h hp⟩
  rw [Int.le_ediv_iff_mul_le hp]
  have:a*2 ^ n<=a*1:=Int.mul_le_mul_of_nonpos_left (by omega) (by omega)
  omega
 cases k<;>simp only [inK,IntKind.min,IntKind.max,IntKind.signed,IntKind.bits] at ha ⊢<;>simp only [if_true,Bool.false_eq_true,if_false,Nat.reduceSub,Int.reducePow] at ha ⊢<;>
  rcases Int.lt_or_le a 0 with h | h<;>first | (have:=h2 h;omega) | (have:=h1 h;omega)
theorem z2_ (s:ByteArray):(zO_ s).length=s.size:=by unfold zO_;rw [List.length_map,Array.length_toList];rfl
theorem hZ_ {s t:ByteArray}:zO_ s=zO_ t ↔ s=t:=by
 constructor
 ·intro h
  unfold zO_ at h
  have:s.data.toList=t.data.toList:=by
   refine List.map_inj_right (f:=fun b:UInt8=>(b.toNat:Int)) ?_ |>.1 h
   intro x y hxy
   exact UInt8.toNat_inj.1 (Int.ofNat.inj hxy)
  cases s;cases t;congr 1;exact Array.toList_inj.1 this
 ·intro h;rw [h]
theorem toList_inj {s t:ByteArray}:s.toList=t.toList ↔ s=t:=by
 constructor
 ·intro h;rw [ByteArray.toList_eq,ByteArray.toList_eq] at h
  cases s;cases t;congr 1;exact Array.toList_inj.1 h
 ·intro h;rw [h]
theorem uK_ (s t:ByteArray):(s.toList == t.toList)=decide (zO_ s=zO_ t):=by
 rw [Bool.eq_iff_iff];simp [hZ_,toList_inj]
theorem V7_ (s t:ByteArray):zO_ (s++t)=zO_ s++zO_ t:=by
 unfold zO_;simp
theorem W0_ (p q:Int):(p == q)=decide (p=q):=by rw [Bool.eq_iff_iff];simp
def POK (P:Program) (o:Oper) (L:List Opd) (fr:zd_) (K:AV->Prop):Prop:=
 ∃ v,K v/\∀ {I:Nat->Prop} {w:World} {m:M} {a:Act},FOn L fr I w m a->∃ cv,RV I w m v cv/\(execOp a.eval o).run P w=.ok (.value cv) w
theorem JV_ {S:Sem Value} {cv:Value} {w':World} (he:execOp a.eval o=(do pure (.value (<- S)))) (hr:S.run P w=.ok cv w'):(execOp a.eval o).run P w=.ok (.value cv) w':=by
 rw [he,Sem.run_bind,hr];rfl
theorem yN_ {S:Sem Unit} {w':World} (he:execOp a.eval o=(do S;pure .skip)) (hr:S.run P w=.ok () w'):(execOp a.eval o).run P w=.ok .skip w':=by
 rw [he,Sem.run_bind,hr];rfl
theorem b0_ {op:BinOp} {X Y:AV} {K:AV->Prop} (ev:kh_ op X Y K):
 ∃ v,K v/\∀ {P:Program} {I:Nat->Prop} {w:World} {m:M} {a:Act} {xt:TypeId} {x y:Operand},RV I w m X (a.eval x)->RV I w m Y (a.eval y)->
   ∃ cv,RV I w m v cv/\(do eqGuard op xt x y (a.eval x) (a.eval y);binOp op xt (a.eval x) (a.eval y)).run P w=.ok cv w:=by
 cases op with
 | add=>
   simp only [kh_] at ev
   split at ev
   ·rename_i p q
    obtain ⟨h0,hk⟩:=zj_ ev
    refine ⟨_,hk,fun {P I w m a xt x y} hx hy=>?_⟩
    obtain ⟨s1,e1,rfl,h1⟩:=hx
    obtain ⟨s2,e2,rfl,h2⟩:=hy
    rw [z2_,z2_] at h0
    refine ⟨.string (s1++s2),⟨_,rfl,(V7_ s1 s2).symm,?_⟩,?_⟩
    ·rw [ByteArray.size_append];unfold maxLen;omega
    ·have hle:¬ (((s1.size+s2.size:Nat):Int) > IntKind.i64.max):=by
      simp only [IntKind.max,IntKind.signed,IntKind.bits,if_true];simp;omega
     rw [e1,e2]
     show (do eqGuard .add xt x y (.string s1) (.string s2);binOp .add xt (.string s1) (.string s2)).run P w=_
     simp only [binOp,Op.stringOp]
     rw [if_neg hle]
     simp [eqGuard]
   ·rename_i k k' q
    split at ev
    ·rename_i hkk _
     subst hkk
     refine ⟨_,ev,fun {P I w m a xt x y} hx hy=>?_⟩
     obtain ⟨p,e1,_⟩:=hx
     refine ⟨_,RV_0 ⟨k.wrap (p+q),rfl,Z9_ _ _⟩,?_⟩
     simp [e1,(zq_ hy).1,eqGuard,binOp,Op.intArith]
    ·exact ev.elim
   ·obtain ⟨k,p,q,rfl,rfl,ev'⟩:=zL_ ev;replace ev:=ev'
    refine ⟨_,kN_ ev,fun {P I w m a xt x y} hx hy=>⟨_,ZN_ (Z9_ _ _),?_⟩⟩
    simp [(zq_ hx).1,(zq_ hy).1,eqGuard,binOp,Op.intArith]
 | sub=>
   simp only [kh_] at ev
   obtain ⟨k,p,q,rfl,rfl,ev'⟩:=zL_ ev;replace ev:=ev'
   refine ⟨_,kN_ ev,fun {P I w m a xt x y} hx hy=>⟨_,ZN_ (Z9_ _ _),?_⟩⟩
   simp [(zq_ hx).1,(zq_ hy).1,eqGuard,binOp,Op.intArith]
 | mul=>
   simp only [kh_] at ev
   obtain ⟨k,p,q,rfl,rfl,ev'⟩:=zL_ ev;replace ev:=ev'
   refine ⟨_,kN_ ev,fun {P I w m a xt x y} hx hy=>⟨_,ZN_ (Z9_ _ _),?_⟩⟩
   simp [(zq_ hx).1,(zq_ hy).1,eqGuard,binOp,Op.intArith]
 | quo=>
   simp only [kh_] at ev
   obtain ⟨k,p,q,rfl,rfl,ev'⟩:=zL_ ev;replace ev:=ev'
   obtain ⟨h0,ev⟩:=zj_ ev
   refine ⟨_,kN_ ev,fun {P I w m a xt x y} hx hy=>⟨_,ZN_ (Z9_ _ _),?_⟩⟩
   simp [(zq_ hx).1,(zq_ hy).1,eqGuard,binOp,Op.intDiv,h0]
 | rem=>
   simp only [kh_] at ev
   obtain ⟨k,p,q,rfl,rfl,ev'⟩:=zL_ ev;replace ev:=ev'
   obtain ⟨h0,ev⟩:=zj_ ev
   refine ⟨_,ev,fun {P I w m a xt x y} hx hy=>⟨_,ZN_ (zam_ (zq_ hx).2 h0),?_⟩⟩
   simp [(zq_ hx).1,(zq_ hy).1,eqGuard,binOp,Op.intDiv,h0]
 | and=>
   simp only [kh_] at ev
   obtain ⟨k,p,q,rfl,rfl,ev'⟩:=zL_ ev;replace ev:=ev'
   refine ⟨_,ev,fun {P I w m a xt x y} hx hy=>⟨_,ZN_ (Z9_ _ _),?_⟩⟩
   simp [(zq_ hx).1,(zq_ hy).1,eqGuard,binOp,Op.intBits,kz_]
 | or=>
   simp only [kh_] at ev
   obtain ⟨k,p,q,rfl,rfl,ev'⟩:=zL_ ev;replace ev:=ev'
   refine ⟨_,ev,fun {P I w m a xt x y} hx hy=>⟨_,ZN_ (Z9_ _ _),?_⟩⟩
   simp [(zq_ hx).1,(zq_ hy).1,eqGuard,binOp,Op.intBits,kz_]
 | xor=>
   simp only [kh_] at ev
   obtain ⟨k,p,q,rfl,rfl,ev'⟩:=zL_ ev;replace ev:=ev'
   refine ⟨_,ev,fun {P I w m a xt x y} hx hy=>⟨_,ZN_ (Z9_ _ _),?_⟩⟩
   simp [(zq_ hx).1,(zq_ hy).1,eqGuard,binOp,Op.intBits,kz_]
 | andNot=>
   simp only [kh_] at ev
   obtain ⟨k,p,q,rfl,rfl,ev'⟩:=zL_ ev;replace ev:=ev'
   refine ⟨_,ev,fun {P I w m a xt x y} hx hy=>⟨_,ZN_ (Z9_ _ _),?_⟩⟩
   simp [(zq_ hx).1,(zq_ hy).1,eqGuard,binOp,Op.intBits,kz_]
 | shl=>
   simp only [kh_] at ev
   split at ev
   ·rename_i k p k' q
    obtain ⟨h0,ev⟩:=zj_ ev
    refine ⟨_,kN_ ev,fun {P I w m a xt x y} hx hy=>⟨_,ZN_ (Z9_ _ _),?_⟩⟩
    simp [(zq_ hx).1,(zq_ hy).1,eqGuard,binOp,Op.shift,show ¬ q < 0 by omega]
   ·exact ev.elim
 | shr=>
   simp only [kh_] at ev
   split at ev
   ·rename_i k p k' q
    obtain ⟨h0,ev⟩:=zj_ ev
    refine ⟨_,ev,fun {P I w m a xt x y} hx hy=>⟨_,ZN_ (zan_ (zq_ hx).2),?_⟩⟩
    simp [(zq_ hx).1,(zq_ hy).1,eqGuard,binOp,Op.shift,show ¬ q < 0 by omega]
   ·exact ev.elim
 | eql=>
   simp only [kh_] at ev
   split at ev
   ·refine ⟨_,ev,fun {P I w m a xt x y} hx hy=>?_⟩
    obtain ⟨s1,e1,rfl,h1⟩:=hx
    obtain ⟨s2,e2,rfl,h2⟩:=hy
    exact ⟨_,qB_,by simp [e1,e2,eqGuard,binOp,Op.stringOp,uK_,bne]⟩
   ·obtain ⟨k,p,q,rfl,rfl,ev'⟩:=zL_ ev;replace ev:=ev'
    refine ⟨_,ev,fun {P I w m a xt x y} hx hy=>⟨_,qB_,?_⟩⟩
    simp [(zq_ hx).1,(zq_ hy).1,eqGuard,binOp,Op.intCmp,W0_]
 | neq=>
   simp only [kh_] at ev
   split at ev
   ·refine ⟨_,ev,fun {P I w m a xt x y} hx hy=>?_⟩
    obtain ⟨s1,e1,rfl,h1⟩:=hx
    obtain ⟨s2,e2,rfl,h2⟩:=hy
    exact ⟨_,qB_,by simp [e1,e2,eqGuard,binOp,Op.stringOp,uK_,bne]⟩
   ·obtain ⟨k,p,q,rfl,rfl,ev'⟩:=zL_ ev;replace ev:=ev'
    refine ⟨_,ev,fun {P I w m a xt x y} hx hy=>⟨_,qB_,?_⟩⟩
    simp [(zq_ hx).1,(zq_ hy).1,eqGuard,binOp,Op.intCmp,bne,W0_]
 | lss=>
   simp only [kh_] at ev
   obtain ⟨k,p,q,rfl,rfl,ev'⟩:=zL_ ev;replace ev:=ev'
   refine ⟨_,ev,fun {P I w m a xt x y} hx hy=>⟨_,qB_,?_⟩⟩
   simp [(zq_ hx).1,(zq_ hy).1,eqGuard,binOp,Op.intCmp,W0_]
 | leq=>
   simp only [kh_] at ev
   obtain ⟨k,p,q,rfl,rfl,ev'⟩:=zL_ ev;replace ev:=ev'
   refine ⟨_,ev,fun {P I w m a xt x y} hx hy=>⟨_,qB_,?_⟩⟩
   simp [(zq_ hx).1,(zq_ hy).1,eqGuard,binOp,Op.intCmp,W0_]
 | gtr=>
   simp only [kh_] at ev
   obtain ⟨k,p,q,rfl,rfl,ev'⟩:=zL_ ev;replace ev:=ev'
   refine ⟨_,ev,fun {P I w m a xt x y} hx hy=>⟨_,qB_,?_⟩⟩
   simp [(zq_ hx).1,(zq_ hy).1,eqGuard,binOp,Op.intCmp,W0_]
 | geq=>
   simp only [kh_] at ev
   obtain ⟨k,p,q,rfl,rfl,ev'⟩:=zL_ ev;replace ev:=ev'
   refine ⟨_,ev,fun {P I w m a xt x y} hx hy=>⟨_,qB_,?_⟩⟩
   simp [(zq_ hx).1,(zq_ hy).1,eqGuard,binOp,Op.intCmp,W0_]
theorem qI_ {b:Builtin} {args:Array Operand} {ts:Array TypeId}
 (ho:o.op=.call {callee:=.builtin b,args:=args,argTypes:=ts}):
 execOp a.eval o=builtin b ts o.type (args.map fun | .const _=>true | _=>false) (args.map a.eval):=by
 unfold execOp
 simp only [ho]
 rfl
theorem b7_ {op:UnOp} {X:AV} {K:AV->Prop} (ev:evUn op X K):
 ∃ v,K v/\∀ {P:Program} {I:Nat->Prop} {w:World} {m:M} {x:Value},RV I w m X x->∃ cv,RV I w m v cv/\(Op.unary op x).run P w=.ok cv w:=by
 unfold evUn at ev
 split at ev
 ·exact ⟨_,ev,fun {P I w m x} hx=>⟨_,qB_,by rw [zbw_ hx];simp [Op.unary]⟩⟩
 ·rename_i b
  exact ⟨_,ev,fun {P I w m x} hx=>⟨_,vQ_,by rw [zd0_ hx];cases b<;>simp [Op.unary]⟩⟩
 ·exact ⟨_,kN_ ev,fun {P I w m x} hx=>⟨_,ZN_ (Z9_ _ _),by rw [(zq_ hx).1];simp [Op.unary,Op.intArith]⟩⟩
 ·exact ⟨_,ev,fun {P I w m x} hx=>⟨_,ZN_ (Z9_ _ _),by rw [(zq_ hx).1];simp [Op.unary,Op.intBits,kz_]⟩⟩
 ·exact ev.elim
theorem UW_ {d:Nat} {t:TypeId} {p q:Bool} (ht:P.underlying t=some .bool):
 (Op.equalIn (d+1) t (.bool p) (.bool q)).run P w=.ok (p == q) w:=by
 unfold Op.equalIn
 simp only [Sem.run_bind,run_underlying ht,Result.andThen_ok,Sem.run_pure]
theorem Wv_ {d:Nat} {t e:TypeId} {x y:Option Addr} (ht:P.underlying t=some (.pointer e)) (h:x=none\/y=none):
 (Op.equalIn (d+1) t (.pointer x) (.pointer y)).run P w=.ok (x.isNone && y.isNone) w:=by
 unfold Op.equalIn
 simp only [Sem.run_bind,run_underlying ht,Result.andThen_ok]
 rcases h with rfl | rfl
 ·simp
 ·cases x<;>simp
theorem Yd_ {d:Nat} {t k e:TypeId} {x y:Option Nat} (ht:P.underlying t=some (.map k e)) (h:x=none\/y=none):
 (Op.equalIn (d+1) t (.map x) (.map y)).run P w=.ok (x.isNone && y.isNone) w:=by
 unfold Op.equalIn
 simp only [Sem.run_bind,run_underlying ht,Result.andThen_ok]
 rcases h with rfl | rfl
 ·simp
 ·cases x<;>simp
theorem V6_ {d:Nat} {t e:TypeId} {x:Option Addr} {n c:Nat} (ht:P.underlying t=some (.slice e)):
 (Op.equalIn (d+1) t (.slice x n c) (.slice none 0 0)).run P w=.ok x.isNone w:=by
 unfold Op.equalIn
 simp only [Sem.run_bind,run_underlying ht,Result.andThen_ok]
 cases x<;>simp
theorem xO_ {neg:Bool} {xt:TypeId} {x y:Operand} {u v:Value} {r:Bool}
 (hk:(∃ p q,u=.bool p/\v=.bool q)\/(∃ p q,u=.pointer p/\v=.pointer q)\/(∃ p q,u=.map p/\v=.map q)\/(∃ p n c q n' c',u=.slice p n c/\v=.slice q n' c')) (hr:(Op.equal xt u v).run P w=.ok r w):
 (do eqGuard (if neg then .neq else .eql) xt x y u v;binOp (if neg then .neq else .eql) xt u v).run P w=.ok (.bool (match neg with | true=>!r | false=>r)) w:=by
 cases neg
 ·have e:(do eqGuard .eql xt x y u v;binOp .eql xt u v:Sem Value)=(do let r <- Op.equal xt u v;pure (.bool r)):=by
   rcases hk with ⟨p,q,rfl,rfl⟩ | ⟨p,q,rfl,rfl⟩ | ⟨p,q,rfl,rfl⟩ | ⟨p,n,c,q,n',c',rfl,rfl⟩<;>rfl
  show (do eqGuard .eql xt x y u v;binOp .eql xt u v:Sem Value).run P w=_
  rw [e,Sem.run_bind,hr];rfl
 ·have e:(do eqGuard .neq xt x y u v;binOp .neq xt u v:Sem Value)=(do let r <- Op.equal xt u v;pure (.bool (!r))):=by
   rcases hk with ⟨p,q,rfl,rfl⟩ | ⟨p,q,rfl,rfl⟩ | ⟨p,q,rfl,rfl⟩ | ⟨p,n,c,q,n',c',rfl,rfl⟩<;>rfl
  show (do eqGuard .neq xt x y u v;binOp .neq xt u v:Sem Value).run P w=_
  rw [e,Sem.run_bind,hr];rfl
theorem bN_ {neg:Bool} {X Y:AV} {K:AV->Prop} (ev:eqpK neg X Y K):
 ∃ v,K v/\∀ {P:Program} {I:Nat->Prop} {w:World} {m:M} {a:Act} {xt e:TypeId} {x y:Operand},P.underlying xt=some (.pointer e)->RV I w m X (a.eval x)->RV I w m Y (a.eval y)->
   ∃ cv,RV I w m v cv/\(do eqGuard (if neg then .neq else .eql) xt x y (a.eval x) (a.eval y);binOp (if neg then .neq else .eql) xt (a.eval x) (a.eval y)).run P w=.ok cv w:=by
 unfold eqpK at ev
 split at ev
 ·refine ⟨_,ev,fun {P I w m a xt e x y} ht hx hy=>⟨.bool (!neg),vQ_,?_⟩⟩
  have h1:a.eval x=.pointer none:=hx
  have h2:a.eval y=.pointer none:=hy
  rw [xO_ (r:=true) (.inr (.inl ⟨_,_,h1,h2⟩)) (by rw [h1,h2];exact Wv_ (d:=9999) ht (.inl rfl))]
  cases neg<;>rfl
 ·refine ⟨_,ev,fun {P I w m a xt e x y} ht hx hy=>⟨.bool neg,vQ_,?_⟩⟩
  obtain ⟨b,_,h1,_⟩:=hx
  have h2:a.eval y=.pointer none:=hy
  rw [xO_ (r:=false) (.inr (.inl ⟨_,_,h1,h2⟩)) (by rw [h1,h2];exact Wv_ (d:=9999) ht (.inr rfl))]
  cases neg<;>rfl
 ·refine ⟨_,ev,fun {P I w m a xt e x y} ht hx hy=>⟨.bool neg,vQ_,?_⟩⟩
  obtain ⟨b,_,h2,_⟩:=hy
  have h1:a.eval x=.pointer none:=hx
  rw [xO_ (r:=false) (.inr (.inl ⟨_,_,h1,h2⟩)) (by rw [h1,h2];exact Wv_ (d:=9999) ht (.inl rfl))]
  cases neg<;>rfl
 ·exact ev.elim
theorem WO_ {t:TypeId} {d:TypeDesc} (h:P.underlying t=some d) (w:World):(isAgg t).run P w=.ok (aggB d) w:=by
 unfold isAgg
 rw [Sem.run_bind,run_underlying h]
 cases d<;>rfl
theorem zQ_ {t:TypeId} {i:TypeInfo} (h:P.info? t=some i) (w:World):(sizeOf t).run P w=.ok i.size w:=by
 unfold sizeOf typeInfo
 simp [h]
theorem WQ_ {t:TypeId} {n:Option Nat} (h:nOk P t n=true):
 ∃ d i,P.underlying t=some d/\P.info? t=some i/\((aggB d=true/\n=some i.size)\/(aggB d=false/\n=none/\i.size=1)):=by
 unfold nOk at h
 split at h
 ·rename_i d i hd hi
  refine ⟨d,i,hd,hi,?_⟩
  split at h
  ·rename_i hb;exact .inl ⟨hb,by simpa using h⟩
  ·rename_i hb;simp only [Bool.and_eq_true,beq_iff_eq] at h;exact .inr ⟨hb,h.1,h.2⟩
 ·cases h
theorem Qg_ {t:TypeId} {i:TypeInfo} {v:Value} (h:P.info? t=some i) (hz:i.zero=some v):(zeroValue t).run P w=.ok v w:=by
 simp [zeroValue,typeInfo,h,hz]
theorem ua_ {t:TypeId} {z:List AV} (h:uX_ P t z=true):∃ i v,P.info? t=some i/\i.zero=some v/\Je_ v.cells.toList z=true:=by
 unfold uX_ at h
 split at h
 ·rename_i i hi
  split at h
  ·rename_i v hv;exact ⟨i,v,hi,hv,h⟩
  ·cases h
 ·cases h
theorem hd_ {n:Option Nat} {off:Nat} {l:List AV} {K:AV->Prop} (ev:cut n off l K):
 ∃ v,K v/\∀ {P:Program} {I:Nat->Prop} {w:World} {m:M} {t:TypeId} {cs:Array Value},nOk P t n=true->z0_ I w m l cs.toList->∃ cv,RV I w m v cv/\(part t cs off).run P w=.ok cv w:=by
 rcases Gu_ ev with ⟨rfl,v,t,hd,hK⟩ | ⟨k,rfl,hle,hK⟩
 ·refine ⟨v,hK,fun {P I w m t cs} hn hR=>?_⟩
  obtain ⟨d,i,hd',hi,h⟩:=WQ_ hn
  rcases h with ⟨_,h⟩ | ⟨hb,_,hs⟩
  ·cases h
  ·obtain ⟨cv,h1,h2⟩:=VC_ hR hd
   have h1':cs[off]?=some cv:=by simpa using h1
   exact ⟨cv,RV_0 h2,by simp [part,WO_ hd',hb,h1']⟩
 ·refine ⟨_,hK,fun {P I w m t cs} hn hR=>?_⟩
  obtain ⟨d,i,hd',hi,h⟩:=WQ_ hn
  rcases h with ⟨hb,h⟩ | ⟨_,h,_⟩
  ·cases h
   have:cs.extract off (off+i.size)=((cs.toList.drop off).take i.size).toArray:=by
    apply Array.toList_inj.1
    simp [Array.toList_extract,List.extract_eq_take_drop]
   exact ⟨.agg ((cs.toList.drop off).take i.size).toArray,⟨_,rfl,by simpa using W3_ _ (Jl_ off hR)⟩,by simp [part,WO_ hd',hb,zQ_ hi,this]⟩
  ·cases h
end ops
end Go.Eng
namespace Go.Eng
set_option linter.unusedVariables false
set_option linter.unusedSimpArgs false
set_option maxRecDepth 10000
open Go.RowKit
def zex_:Leaf->Value->Prop
 | .int k,v=>∃ n,v=.int k n/\inK k n
 | .bool,v=>∃ b,v=.bool b
 | .str,v=>∃ s:ByteArray,v=.string s/\s.size<=maxLen
def jo_:List Leaf->List Value->Prop
 | [],[]=>True
 | k :: ks,v :: vs=>zex_ k v/\jo_ ks vs
 | _,_=>False
def kx_:Value->Lit
 | .int k n=>.int k n
 | .bool b=>.bool b
 | .string s=>.string s.data.toList
 | _=>.nil
theorem jo_.length:∀ {ks:List Leaf} {vs:List Value},jo_ ks vs->vs.length=ks.length
 | [],[],_=>rfl
 | k :: ks,v :: vs,h=>by simp [jo_.length h.2]
 | [],_ :: _,h=>h.elim
 | _ :: _,[],h=>h.elim
theorem jo_.split:∀ {ks ks':List Leaf} {vs:List Value},jo_ (ks++ks') vs->jo_ ks (vs.take ks.length)/\jo_ ks' (vs.drop ks.length)
 | [],ks',vs,h=>by simpa [jo_] using h
 | k :: ks,ks',v :: vs,h=>by
   have:=jo_.split (ks:=ks) (ks':=ks') h.2
   exact ⟨⟨h.1,this.1⟩,this.2⟩
 | k :: ks,ks',[],h=>h.elim
theorem y9_ {P:Program} {D:Nat} {rec:TypeId->Option (List Leaf)} (hrec:∀ t ks cs,rec t=some ks->jo_ ks cs->P.keyLits D t cs=some (cs.map kx_)) (all:List Value):∀ (fs:List Field) (off:Nat) (ks:List Leaf),JL_ P.cellsOf rec fs off=some ks->jo_ ks (all.drop off)->
 ∃ Ls,fs.mapM (fun f=>P.keyLits D f.type ((all.drop f.offset).take (P.cellsOf f.type)))=some Ls/\Ls.flatten=(all.drop off).map kx_
 | [],off,ks,h,hf=>by
   simp only [JL_,Option.some.injEq] at h
   subst h
   have:all.drop off=[]:=List.length_eq_zero_iff.1 hf.length
   exact ⟨[],rfl,by rw [this];rfl⟩
 | f :: r,off,ks,h,hf=>by
   simp only [JL_] at h
   split at h
   ·rename_i hc
    obtain ⟨h1,h2⟩:=hc
    cases hk:rec f.type with
    | none=>rw [hk] at h;cases h
    | some ks1=>
      rw [hk] at h
      simp only [Option.bind_some] at h
      split at h
      ·rename_i hl
       simp only [Option.map_eq_some_iff] at h
       obtain ⟨ks2,h3,rfl⟩:=h
       obtain ⟨g1,g2⟩:=hf.split
       rw [List.drop_drop] at g2
       obtain ⟨Ls,e1,e2⟩:=y9_ hrec all r (off+ks1.length) ks2 h3 g2
       have e3:=hrec _ _ _ hk g1
       refine ⟨((all.drop off).take ks1.length).map kx_ :: Ls,?_,?_⟩
       ·rw [List.mapM_cons,h1,<- hl,e3,e1];rfl
       ·rw [List.flatten_cons,e2,<- List.map_append]
        congr 1
        rw [<- List.drop_drop,List.take_append_drop]
      ·cases h
   ·cases h
theorem vS_ {P:Program} {D:Nat} {e:TypeId} {ks:List Leaf} (hrec:∀ cs,jo_ ks cs->P.keyLits D e cs=some (cs.map kx_)) (all:List Value):∀ (n start:Nat),jo_ (List.replicate n ks).flatten (all.drop (start*ks.length))->
 ∃ Ls,(List.range' start n).mapM (fun i=>P.keyLits D e ((all.drop (i*ks.length)).take ks.length))=some Ls/\Ls.flatten=(all.drop (start*ks.length)).map kx_
 | 0,start,hf=>by
   have:all.drop (start*ks.length)=[]:=List.length_eq_zero_iff.1 hf.length
   exact ⟨[],rfl,by rw [this];rfl⟩
 | n+1,start,hf=>by
   rw [List.replicate_succ,List.flatten_cons] at hf
   obtain ⟨g1,g2⟩:=hf.split
   rw [List.drop_drop,show start*ks.length+ks.length=(start+1)*ks.length by rw [Nat.add_mul,Nat.one_mul]] at g2
   obtain ⟨Ls,e1,e2⟩:=vS_ hrec all n (start+1) g2
   refine ⟨((all.drop (start*ks.length)).take ks.length).map kx_ :: Ls,?_,?_⟩
   ·rw [List.range'_succ,List.mapM_cons,hrec _ g1,e1];rfl
   ·rw [List.flatten_cons,e2,<- List.map_append]
    congr 1
    rw [show (start+1)*ks.length=start*ks.length+ks.length by rw [Nat.add_mul,Nat.one_mul],<- List.drop_drop,List.take_append_drop]
theorem xF_ {P:Program}:∀ (D:Nat) (t:TypeId) (ks:List Leaf) (cs:List Value),qW_ P D t=some ks->jo_ ks cs->P.keyLits D t cs=some (cs.map kx_)
 | 0,_,_,_,h,_=>by cases h
 | D+1,t,ks,cs,h,hf=>by
   unfold qW_ at h
   unfold Program.keyLits
   split at h
   ·rename_i hu
    cases h
    cases cs with
    | nil=>exact hf.elim
    | cons v r=>
      obtain ⟨⟨b,rfl⟩,h2⟩:=hf
      cases r with
      | cons _ _=>exact (h2:False).elim
      | nil=>rw [hu];rfl
   ·rename_i k hu
    cases h
    cases cs with
    | nil=>exact hf.elim
    | cons v r=>
      obtain ⟨⟨n,rfl,hn⟩,h2⟩:=hf
      cases r with
      | cons _ _=>exact (h2:False).elim
      | nil=>
        rw [hu]
        have:(Lit.int k n).wf=true:=by simp only [Lit.wf,Bool.and_eq_true,decide_eq_true_eq];exact hn
        simp [this,kx_]
   ·rename_i hu
    cases h
    cases cs with
    | nil=>exact hf.elim
    | cons v r=>
      obtain ⟨⟨s,rfl,hs⟩,h2⟩:=hf
      cases r with
      | cons _ _=>exact (h2:False).elim
      | nil=>rw [hu];simp [hs,kx_]
   ·rename_i n e hu
    cases hk:qW_ P D e with
    | none=>rw [hk] at h;cases h
    | some ks1=>
      rw [hk] at h
      simp only [Option.bind_some] at h
      split at h
      ·rename_i hl
       cases h
       obtain ⟨Ls,e1,e2⟩:=vS_ (P:=P) (D:=D) (e:=e) (fun cs hc=>xF_ D e ks1 cs hk hc) cs n 0 (by simpa using hf)
       have hlen:cs.length=P.cellsOf t:=by rw [hf.length,hl.2];simp
       rw [hu]
       simp only [hlen,if_true]
       rw [<- hl.1,List.range_eq_range',e1]
       simp only [Option.map_some,e2,Nat.zero_mul,List.drop_zero]
      ·cases h
   ·rename_i fs hu
    cases hk:JL_ P.cellsOf (qW_ P D) fs.toList 0 with
    | none=>rw [hk] at h;cases h
    | some ks1=>
      rw [hk] at h
      simp only [Option.bind_some] at h
      split at h
      ·rename_i hl
       cases h
       obtain ⟨Ls,e1,e2⟩:=y9_ (P:=P) (D:=D) (fun t ks cs h hc=>xF_ D t ks cs h hc) cs fs.toList 0 _ hk (by simpa using hf)
       have hlen:cs.length=P.cellsOf t:=by rw [hf.length,hl]
       have hn : fs.all (·.name != "_") = true := by
        rw [Array.all_eq_true']
        have key : ∀ (l : List Field) (off : Nat) (ks : List Leaf), JL_ P.cellsOf (qW_ P D) l off = some ks -> ∀ f ∈ l, f.name ≠ "_" := fun l => by
         induction l with
         | nil=>intro _ _ _ f hf;cases hf
         | cons g r ih=>
           intro off ks h f hf
           simp only [JL_] at h
           split at h
           ·rename_i hc
            rcases List.mem_cons.1 hf with rfl | hf
            ·exact hc.2
            ·cases hk:qW_ P D g.type with
             | none=>rw [hk] at h;cases h
             | some k1=>
               rw [hk] at h
               simp only [Option.bind_some] at h
               split at h
               ·simp only [Option.map_eq_some_iff] at h
                obtain ⟨k2,h3,_⟩:=h
                exact ih _ _ h3 f hf
               ·cases h
           ·cases h
        intro f hf
        simpa using key _ _ _ hk f (by simpa using hf)
       rw [hu]
       simp only [hlen,hn,true_and,if_true,and_self]
       rw [e1]
       simp only [Option.map_some,e2,List.drop_zero]
      ·cases h
   ·cases h
theorem g3_ {P:Program} {d:Nat} {t:TypeId} {ks:List Leaf} (h:qW_ P d t=some ks) (hw:UG_ P t=true):ks.length=P.cellsOf t:=by
 cases d with
 | zero=>cases h
 | succ d=>
   unfold qW_ at h
   unfold UG_ at hw
   split at h
   ·rename_i hu;rw [hu] at hw;cases hw
   ·rename_i hu;rw [hu] at hw;cases hw
   ·rename_i hu;rw [hu] at hw;cases hw
   ·cases hk:qW_ P d _ with
    | none=>rw [hk] at h;cases h
    | some k=>
      rw [hk] at h
      simp only [Option.bind_some] at h
      split at h
      ·rename_i hl;cases h;rw [hl.2];simp
      ·cases h
   ·cases hk:JL_ P.cellsOf (qW_ P d) _ 0 with
    | none=>rw [hk] at h;cases h
    | some k=>
      rw [hk] at h
      simp only [Option.bind_some] at h
      split at h
      ·rename_i hl;cases h;exact hl
      ·cases h
   ·cases h
theorem Br_ (s:ByteArray) (i:Nat):Utf8.decode s i=KF_ (zO_ s) i:=by
 have e:∀ k,(s.get! (i+k)).toNat=((zO_ s).getD (i+k) 0).toNat:=fun k=>by
  unfold zO_
  rw [List.getD_eq_getElem?_getD,List.getElem?_map]
  show (s.data[i+k]!).toNat=_
  rw [getElem!_def,<- Array.getElem?_toList]
  cases s.data.toList[i+k]?<;>rfl
 have l:(zO_ s).length=s.size:=z2_ s
 simp only [Utf8.decode,KF_,e,l]
theorem zbx_ (s:List Int) (i:Nat):(KF_ s i).1<=1114111:=by
 have hv:∀ c:Nat,Utf8.valid (c:Int)=true->c<=1114111:=fun c h=>by
  simp only [Utf8.valid,Bool.or_eq_true,Bool.and_eq_true,decide_eq_true_eq] at h;omega
 unfold KF_
 simp only []
 split
 ·simp only [];omega
 ·split
  ·split
   ·simp only [];omega
   ·simp only [Utf8.runeError];omega
  ·split
   ·split
    ·rename_i h;simp only [Bool.and_eq_true] at h;exact hv _ h.2
    ·simp only [Utf8.runeError];omega
   ·split
    ·split
     ·rename_i h;simp only [Bool.and_eq_true] at h;exact hv _ h.2
     ·simp only [Utf8.runeError];omega
    ·simp only [Utf8.runeError];omega
end Go.Eng
