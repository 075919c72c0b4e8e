/- Parts of the proof: EEqs. No condition. -/
import Derived.Test.YtheklpaoigbdnaaDoorXG01
import Derived.ChangeKeysEq
import Derived.DeepKeys
import Derived.Laws.StructEq
namespace Go.Eng
set_option linter.unusedVariables false
set_option linter.unusedSimpArgs false
open Go.RowKit
def GS_ (k:IntKind) (n:Int):Bool:=decide (k.min<=n) && decide (n<=k.max)
theorem GR_ {k:IntKind} {n:Int} (h:GS_ k n=true):inK k n:=by
 simp only [GS_,Bool.and_eq_true,decide_eq_true_eq] at h;exact h
theorem Zc_ (k:IntKind) (n:Int):inK k (k.wrap n):=by
 cases k<;>simp [inK,IntKind.wrap,IntKind.min,IntKind.max,IntKind.signed,IntKind.bits]<;>(try split)<;>omega
theorem wy_ {k:IntKind} {n:Int} (h:inK k n):k.wrap n=n:=by
 cases k<;>simp [inK,IntKind.wrap,IntKind.min,IntKind.max,IntKind.signed,IntKind.bits] at h ⊢<;>(try split)<;>omega
theorem qu_ {k:IntKind} {n:Int} {K:Int->Prop} (h:ari k n K):K (k.wrap n):=by
 refine h _ ⟨fun h1 h2=>?_,fun h=>h⟩
 rw [wy_ h1];exact h2
theorem zr_ {x y:AV} {K:IntKind->Int->Int->Prop} (h:qo_ x y K):∃ k a b,x=.int k a/\y=.int k b/\K k a b:=by
 unfold qo_ at h
 split at h
 ·split at h
  ·rename_i hk _;subst hk;exact ⟨_,_,_,rfl,rfl,h⟩
  ·exact h.elim
 ·exact h.elim
theorem zL_ {t' t:Ty} {x:List t'.den} {K:List t.den->Prop} (h:Qz_ t' t x K):∃ e:t'=t,K (e ▸ x):=by
 exact h _ ⟨fun e k=>⟨e,k⟩⟩
theorem UZ_ {t:Ty} {x:List t.den} {K:List t.den->Prop} (h:K x):Qz_ t t x K:=fun _ k=>zb_ k h
theorem VF_:∀ {t:Ty} {l:List AV} {K:t.den->List AV->Prop},t.ofK l K ↔ ∃ x r,t.ofCells l=some (x,r)/\K x r:=fun {t}=>by
 induction t with
 | cons a b iha ihb=>
   intro l K
   unfold Ty.ofK Ty.ofCells
   rw [iha]
   constructor
   ·rintro ⟨x,r,h1,h2⟩
    obtain ⟨y,r',h3,h4⟩:=ihb.1 h2
    exact ⟨(x,y),r',by simp only [h1,h3],h4⟩
   ·rintro ⟨x,r,h1,h2⟩
    split at h1
    ·rename_i x' r' e1
     split at h1
     ·rename_i y' r2 e2
      cases h1
      exact ⟨x',r',e1,ihb.2 ⟨y',r,e2,h2⟩⟩
     ·cases h1
    ·cases h1
 | int k=>
   intro l K
   cases l with
   | nil=>exact ⟨fun h=>False.elim h,fun ⟨_,_,e,_⟩=>by cases e⟩
   | cons v r=>
     cases v with
     | int k' n=>
       unfold Ty.ofK Ty.ofCells
       cases decEq k k' with
       | isTrue=>exact ⟨fun h=>⟨n,r,rfl,h⟩,fun ⟨x,r,e,h⟩=>by cases e;exact h⟩
       | isFalse=>exact ⟨fun h=>False.elim h,fun ⟨_,_,e,_⟩=>by cases e⟩
     | _=>exact ⟨fun h=>False.elim h,fun ⟨_,_,e,_⟩=>by cases e⟩
 | bool=>
   intro l K
   cases l with
   | nil=>exact ⟨fun h=>False.elim h,fun ⟨_,_,e,_⟩=>by cases e⟩
   | cons v r=>
     cases v with
     | bool b=>exact ⟨fun h=>⟨b,r,rfl,h⟩,fun ⟨x,r,e,h⟩=>by cases e;exact h⟩
     | kb b=>exact ⟨fun h=>⟨b,r,rfl,h⟩,fun ⟨x,r,e,h⟩=>by cases e;exact h⟩
     | _=>exact ⟨fun h=>False.elim h,fun ⟨_,_,e,_⟩=>by cases e⟩
 | str=>
   intro l K
   cases l with
   | nil=>exact ⟨fun h=>False.elim h,fun ⟨_,_,e,_⟩=>by cases e⟩
   | cons v r=>
     cases v with
     | str b=>exact ⟨fun h=>⟨b,r,rfl,h⟩,fun ⟨x,r,e,h⟩=>by cases e;exact h⟩
     | _=>exact ⟨fun h=>False.elim h,fun ⟨_,_,e,_⟩=>by cases e⟩
 | nil=>intro l K;unfold Ty.ofK Ty.ofCells;exact ⟨fun h=>⟨(),l,rfl,h⟩,fun ⟨x,r,e,h⟩=>by cases e;exact h⟩
 | sl t _=>
   intro l K
   cases l with
   | nil=>exact ⟨fun h=>False.elim h,fun ⟨_,_,e,_⟩=>by cases e⟩
   | cons v r=>
     cases v with
     | nils=>exact ⟨fun h=>⟨[],r,rfl,h⟩,fun ⟨x,r,e,h⟩=>by cases e;exact h⟩
     | imm t' x=>
       unfold Ty.ofK Ty.ofCells
       constructor
       ·intro h
        obtain ⟨rfl,h⟩:=zL_ h
        exact ⟨x,r,by split<;>first | rfl | (rename_i hd _;exact absurd rfl hd),h⟩
       ·rintro ⟨y,r',e,h⟩
        split at e
        ·rename_i hd _
         subst hd
         cases e
         exact UZ_ h
        ·cases e
     | _=>exact ⟨fun h=>False.elim h,fun ⟨_,_,e,_⟩=>by cases e⟩
theorem vG_ {t:Ty} {l:List AV} {K:t.den->Prop} (h:t.oneQ l K):∃ x,t.one l=some x/\K x:=by
 unfold Ty.oneQ at h
 obtain ⟨x,r,h1,h2⟩:=VF_.1 h
 cases r with
 | nil=>exact ⟨x,by unfold Ty.one;rw [h1],h2⟩
 | cons=>exact h2.elim
theorem qK_ {t:Ty}:∀ {n:Nat} {l:List AV} {K:List t.den->Prop},t.allK n l K ↔ ∃ x,t.all n l=some x/\K x
 | 0,[],K=>by simp [Ty.allK,Ty.all]
 | 0,_ :: _,K=>by simp [Ty.allK,Ty.all]
 | n+1,l,K=>by
   unfold Ty.allK Ty.all
   rw [VF_]
   constructor
   ·rintro ⟨x,r,h1,h2⟩
    obtain ⟨y,h3,h4⟩:=qK_.1 h2
    exact ⟨x :: y,by simp only [h1,h3],h4⟩
   ·rintro ⟨x,h1,h2⟩
    split at h1
    ·rename_i x' r' e1
     split at h1
     ·rename_i y' e2
      cases h1
      exact ⟨x',r',e1,qK_.2 ⟨y',e2,h2⟩⟩
     ·cases h1
    ·cases h1
def wJ_:Value->AV->Bool
 | .int k n,.int k' n'=>k == k' && n == n' && GS_ k n
 | .bool b,.kb b'=>b == b'
 | .bool b,.bool b'=>b == b'
 | .string s,.str l=>zn_ s == l && decide (s.size<=maxLen)
 | .slice none 0 0,.imm _ []=>true
 | .slice none 0 0,.nils=>true
 | .pointer none,.nilp=>true
 | .map none,.nilm=>true
 | .nilFunc,.undef=>true
 | _,_=>false
def zx_:Operand->Opd->Bool
 | .tmp i,.t j=>i == j
 | .const v,.c a=>wJ_ v a
 | .func f,.f i=>f == i
 | _,_=>false
def zG_:List Operand->List Opd->Bool
 | [],[]=>true
 | x :: r,y :: l=>zx_ x y && zG_ r l
 | _,_=>false
def We_:Option Operand->Option Opd->Bool
 | none,none=>true
 | some x,some y=>zx_ x y
 | _,_=>false
def Zl_ (P:Program) (t:TypeId) (n:Nat):Bool:=match P.info? t with | some i=>i.size == n | none=>false
def j3_ (P:Program) (t:TypeId) (n:Nat):Bool:=match P.info? t with | some i=>i.bytes == n | none=>false
theorem zQ_ {P:Program} {t:TypeId} {n:Nat} (h:Zl_ P t n=true):∃ i,P.info? t=some i/\i.size=n:=by
 unfold Zl_ at h;split at h
 ·rename_i i hi;exact ⟨i,hi,by simpa using h⟩
 ·cases h
theorem K8_ {P:Program} {t:TypeId} {n:Nat} (h:j3_ P t n=true):∃ i,P.info? t=some i/\i.bytes=n:=by
 unfold j3_ at h;split at h
 ·rename_i i hi;exact ⟨i,hi,by simpa using h⟩
 ·cases h
def g9_:TypeDesc->Bool | .struct _=>true | .array _ _=>true | _=>false
def nOk (P:Program) (t:TypeId) (n:Option Nat):Bool:=
 match P.underlying t,P.info? t with
 | some d,some i=>match g9_ d with | true=>n == some i.size | false=>n == none && i.size == 1
 | _,_=>false
def Z8_ (place:Nat->Option (Nat × Nat)):List (Nat × Operand)->List (Nat × Nat × Opd)->Bool
 | [],[]=>true
 | (i,x) :: r,(off,size,y) :: l=>(match place i with | some (o,n)=>o == off && n == size | none=>false) && zx_ x y && Z8_ place r l
 | _,_=>false
def QW_:List Value->List AV->Bool
 | [],[]=>true
 | v :: r,a :: l=>wJ_ v a && QW_ r l
 | _,_=>false
def XJ_ (P:Program) (t:TypeId) (z:List AV):Bool:=
 match P.info? t with | some i=>(match i.zero with | some v=>QW_ v.cells.toList z | none=>false) | none=>false
def wM_ (P:Program) (t:TypeId) (ty:Ty) (z:ty.den):Bool:=
 match P.info? t with
 | some i=>(match i.zero with
   | some v=>(match ty.one (ty.cells z) with | some _=>true | none=>false) && QW_ v.cells.toList (ty.cells z)
   | none=>false)
 | none=>false
def vU_ (P:Program) (t:TypeId):Bool:=match P.underlying t with | some .bool=>true | _=>false
def kW_ (P:Program) (t:TypeId):Bool:=match P.underlying t with | some (.slice _)=>true | _=>false
def YF_ (P:Program) (t:TypeId):Bool:=match P.underlying t with | some .string=>true | _=>false
def Zk_ (P:Program) (t:TypeId):Option TypeId:=match P.underlying t with | some (.slice e)=>some e | _=>none
theorem zP_ {P:Program} {t e:TypeId} (h:Zk_ P t=some e):P.underlying t=some (.slice e):=by
 unfold Zk_ at h;split at h
 ·cases h;assumption
 ·cases h
theorem ut_ {P:Program} {t:TypeId} (h:vU_ P t=true):P.underlying t=some .bool:=by unfold vU_ at h;split at h<;>first | assumption | cases h
theorem Wx_ {P:Program} {t:TypeId} (h:YF_ P t=true):P.underlying t=some .string:=by unfold YF_ at h;split at h<;>first | assumption | cases h
theorem K0_ {P:Program} {t:TypeId} (h:kW_ P t=true):∃ e,P.underlying t=some (.slice e):=by unfold kW_ at h;split at h<;>first | exact ⟨_,by assumption⟩ | cases h
def Ux_ (P:Program) (t:TypeId):Bool:=match P.underlying t with | some (.int _)=>true | _=>false
def kj_ (cells:TypeId->Nat) (rec:TypeId->Option (List Leaf)):List Field->Nat->Option (List Leaf)
 | [],_=>some []
 | f :: r, off => if f.offset = off /\ f.name ≠ "_" then (rec f.type).bind fun ks => if ks.length = cells f.type then (kj_ cells rec r (off + ks.length)).map (ks ++ ·) else none else none
def Zj_ (P:Program):Nat->TypeId->Option (List Leaf)
 | 0,_=>none
 | d+1,t=>match P.underlying t with
   | some .bool=>some [.bool]
   | some (.int k)=>some [.int k]
   | some .string=>some [.str]
   | some (.array n e)=>(Zj_ P d e).bind fun ks=>if ks.length=P.cellsOf e/\P.cellsOf t=n*ks.length then some (List.replicate n ks).flatten else none
   | some (.struct fs)=>(kj_ P.cellsOf (Zj_ P d) fs.toList 0).bind fun ks=>if ks.length=P.cellsOf t then some ks else none
   | _=>none
def Ww_ (P:Program) (t:TypeId):Bool:=match P.underlying t with | some (.array _ _) | some (.struct _)=>true | _=>false
def GK_ (P:Program) (f:Nat):Bool:=match P.funcs[f]? with
 | some fn => !(fn.name == "runtime.NumGoroutine") && fn.body.isNone && (Extern.allNextRows.lookup fn.name).isNone && (Extern.allGenericRows.lookup fn.name).isNone && (Extern.allTypedRows.lookup fn.name).isNone && (Extern.allRows.lookup fn.name).isNone && fn.origin == "slices.overlaps" &&
   (match fn.params[0]? with | some t=>(match Zk_ P t with | some e=>(P.info? e).isSome | none=>false) | none=>false)
 | none=>false
def zp_ (P:Program) (o:Op) (io:IOp):Bool:=
 match io with
 | .mov y=>match o with | .move x=>zx_ x y | .assign x=>zx_ x y | _=>false
 | .bin op' x' y'=>match o with | .binOp op _ x y _=>op == op' && zx_ x x' && zx_ y y' | _=>false
 | .eqb neg x' y'=>match o with
   | .binOp op xt x y _=>op == (if neg then .neq else .eql) && zx_ x x' && zx_ y y' && vU_ P xt
   | _=>false
 | .un op' x'=>match o with | .unOp op _ x=>op == op' && zx_ x x' | _=>false
 | .conv k x'=>match o with
   | .convert src dst x=>zx_ x x' && (P.underlying src).isSome && (match P.underlying dst with | some (.int k')=>k == k' | _=>false)
   | _=>false
 | .pick c' x' y'=>match o with | .pick c x y=>zx_ c c' && zx_ x x' && zx_ y y' | _=>false
 | .len x'=>match o with
   | .call ⟨.builtin .len,args,ts⟩=>zG_ args.toList [x'] && (match ts[0]? with | some t=>kW_ P t | none=>false)
   | _=>false
 | .slen x'=>match o with
   | .call ⟨.builtin .len,args,ts⟩=>zG_ args.toList [x'] && (match ts[0]? with | some t=>YF_ P t | none=>false)
   | _=>false
 | .minmax mx x' y'=>match o with
   | .call ⟨.builtin b,args,_⟩=>b == (if mx then .max else .min) && zG_ args.toList [x',y']
   | _=>false
 | .fieldAddr off a'=>match o with
   | .fieldAddr s a f=>zx_ a a' && (match P.underlying s with
     | some (.struct fs)=>(match fs[f]? with | some d=>d.offset == off && (match P.info? d.type with | some i=>i.size != 0 | none=>false) | none=>false)
     | _=>false)
   | _=>false
 | .indexSl size a' i'=>match o with
   | .indexAddr t a i=>zx_ a a' && zx_ i i' && (match Zk_ P t with | some e=>Zl_ P e size | none=>false)
   | _=>false
 | .indexArr size n a' i'=>match o with
   | .indexAddr t a i=>zx_ a a' && zx_ i i' && (match P.underlying t with | some (.array k e)=>k == n && Zl_ P e size | _=>false)
   | _=>false
 | .sindex x' i'=>match o with
   | .index t x i=>zx_ x x' && zx_ i i' && YF_ P t
   | _=>false
 | .build z ps=>match o with
   | .build t zu_=>XJ_ P t z && (match P.underlying t with
     | some (.struct fs)=>(fs.toList.all fun f=>(P.info? f.type).isSome) && Z8_ (fun i=>(fs[i]?).map fun f=>(f.offset,P.cellsOf f.type)) zu_.toList ps
     | some (.array _ e)=>(P.info? e).isSome && Z8_ (fun i=>some (i*P.cellsOf e,P.cellsOf e)) zu_.toList ps
     | _=>false)
   | _=>false
 | .buildAll tot ps=>match o with
   | .build t zu_=>(match P.info? t with | some i=>(match i.zero with | some v=>v.cells.size == tot | none=>false) | none=>false) && (match P.underlying t with
     | some (.struct fs)=>(fs.toList.all fun f=>(P.info? f.type).isSome) && Z8_ (fun i=>(fs[i]?).map fun f=>(f.offset,P.cellsOf f.type)) zu_.toList ps
     | some (.array _ e)=>(P.info? e).isSome && Z8_ (fun i=>some (i*P.cellsOf e,P.cellsOf e)) zu_.toList ps
     | _=>false)
   | _=>false
 | .slice size x' lo' hi' mx'=>match o with
   | .slice t x lo hi mx=>zx_ x x' && We_ lo lo' && We_ hi hi' && We_ mx mx' && (match Zk_ P t with | some e=>Zl_ P e size | none=>false)
   | _=>false
 | .extract x' i'=>match o with | .extract x i=>i == i' && zx_ x x' | _=>false
 | .mkfn f first' cap'=>match o with | .makeFunc fn first cap=>(match fn with | .func g=>g == f | _=>false) && zG_ first.toList first' && zG_ cap.toList cap' | _=>false
 | .box z=>match o with
   | .alloc t=>XJ_ P t z
   | _=>false
 | .boxv x'=>match o with | .box _ x=>zx_ x x' | _=>false
 | .load n a'=>match o with | .load t a=>nOk P t n && zx_ a a' | _=>false
 | .loadI _ a'=>match o with | .load t a=>nOk P t none && zx_ a a' | _=>false
 | .store n a' x'=>match o with | .store t a x=>Zl_ P t n && zx_ a a' && zx_ x x' | _=>false
 | .sliceAll ty n ps=>match o with
   | .buildSlice t k zu_=>k == n && (match Zk_ P t with
     | some e=>Zl_ P e ty.size && decide (n*ty.size<=16777216) && decide (n<=16777216) && (match P.info? e with
        | some i=>i.zero.isSome
        | none=>false) && Z8_ (fun i=>some (i*P.cellsOf e,P.cellsOf e)) zu_.toList ps && decide (0 < n*ty.size)
     | none=>false)
   | _=>false
 | .sliceOwn ty n ps=>match o with
   | .buildSlice t k zu_=>k == n && (match Zk_ P t with
     | some e=>Zl_ P e ty.size && decide (n*ty.size<=16777216) && decide (n<=16777216) && (match P.info? e with
        | some i=>i.zero.isSome
        | none=>false) && Z8_ (fun i=>some (i*P.cellsOf e,P.cellsOf e)) zu_.toList ps && decide (0 < n*ty.size)
     | none=>false)
   | _=>false
 | .slice0 ty=>match o with
   | .buildSlice t k zu_=>k == 0 && zu_.isEmpty && (match Zk_ P t with | some e=>Zl_ P e ty.size | none=>false)
   | _=>false
 | .mkrow ty bytes z n' c'=>match o with
   | .makeSlice t n c=>zx_ n n' && zx_ c c' && (match Zk_ P t with | some e=>Zl_ P e ty.size && j3_ P e bytes && wM_ P e ty z | none=>false)
   | _=>false
 | .append ty bytes x' y'=>match o with
   | .call ⟨.builtin .append,args,ts⟩=>zG_ args.toList [x',y'] && (match ts.toList with
     | [t,u]=>(match Zk_ P t with | some e=>Zl_ P e ty.size && j3_ P e bytes && decide (0 < bytes) && decide (0 < ty.size) && (match P.info? e with | some i=>(match i.zero with | some v=>v.cells.size == ty.size | none=>false) | none=>false) | none=>false) && kW_ P u
     | _=>false)
   | _=>false
 | .copy ty x' y'=>match o with
   | .call ⟨.builtin .copy,args,ts⟩=>zG_ args.toList [x',y'] && (match ts[0]? with
     | some t=>(match Zk_ P t with | some e=>Zl_ P e ty.size && decide (0 < ty.size) | none=>false)
     | none=>false)
   | _=>false
 | .b2s x'=>match o with
   | .convert src dst x=>zx_ x x' && YF_ P dst && (match Zk_ P src with | some e=>(match P.underlying e with | some (.int .u8)=>true | _=>false) | none=>false)
   | _=>false
 | .call _ f' args'=>match o with | .call ⟨.value f,args,_⟩=>zx_ f f' && zG_ args.toList args' | _=>false
 | .calln f' args'=>match o with | .call ⟨.value f,args,_⟩=>zx_ f f' && zG_ args.toList args' | _=>false
 | .eqs neg ks x' y'=>match o with
   | .binOp op xt x y _=>op == (if neg then .neq else .eql) && zx_ x x' && zx_ y y' && P.keyTypeAt 8 xt && Ww_ P xt && Zj_ P 8 xt == some ks && !P.eqGuardType P.depth xt
   | _=>false
 | .capp x'=>match o with
   | .call ⟨.builtin .cap,args,ts⟩=>zG_ args.toList [x'] && (match ts[0]? with | some t=>kW_ P t | none=>false)
   | _=>false
 | .sliceX size x' hi'=>match o with
   | .slice t x lo hi mx=>zx_ x x' && lo.isNone && We_ hi (some hi') && mx.isNone && (match Zk_ P t with | some e=>Zl_ P e size | none=>false)
   | _=>false
 | .sliceP size x' lo' hi'=>match o with
   | .slice t x lo hi mx=>zx_ x x' && We_ lo lo' && We_ hi hi' && mx.isNone && (match Zk_ P t with | some e=>Zl_ P e size | none=>false)
   | _=>false
 | .ovl f x' y'=>match o with | .call ⟨.value g,args,_⟩=>zx_ g (.f f) && zG_ args.toList [x',y'] && GK_ P f | _=>false
 | .copyP ty x' y'=>match o with
   | .call ⟨.builtin .copy,args,ts⟩=>zG_ args.toList [x',y'] && (match ts[0]? with
     | some t=>(match Zk_ P t with | some e=>Zl_ P e ty.size && decide (0 < ty.size) | none=>false)
     | none=>false)
   | _=>false
 | .appendzP ty bytes z x' n'=>match o with
   | .call ⟨.builtin .append,args,ts⟩=>zG_ args.toList [x',n'] && (match ts.toList with
     | [t,u]=>(match Zk_ P t with | some e=>Zl_ P e ty.size && j3_ P e bytes && decide (0 < bytes) && decide (0 < ty.size) && wM_ P e ty z | none=>false) && Ux_ P u
     | _=>false)
   | _=>false
 | .clr ty z x'=>match o with
   | .call ⟨.builtin .clear,args,ts⟩=>zG_ args.toList [x'] && (match ts[0]? with
     | some t=>(match Zk_ P t with | some e=>Zl_ P e ty.size && wM_ P e ty z | none=>false)
     | none=>false)
   | _=>false
def z3_:Option Opd->List Opd | none=>[] | some x=>[x]
def IOp.opds:IOp->List Opd
 | .mov x | .un _ x | .conv _ x | .len x | .slen x | .fieldAddr _ x | .extract x _ | .boxv x | .load _ x | .loadI _ x | .b2s x | .capp x | .clr _ _ x=>[x]
 | .bin _ x y | .eqs _ _ x y | .eqb _ x y | .minmax _ x y | .indexSl _ x y | .indexArr _ _ x y | .sindex x y | .store _ x y | .append _ _ x y | .copy _ x y | .mkrow _ _ _ x y | .sliceX _ x y | .copyP _ x y | .appendzP _ _ _ x y=>[x,y]
 | .pick x y z=>[x,y,z]
 | .build _ ps | .buildAll _ ps | .sliceAll _ _ ps | .sliceOwn _ _ ps=>ps.map (·.2.2)
 | .slice _ x lo hi mx=>[x]++z3_ lo++z3_ hi++z3_ mx
 | .sliceP _ x lo hi=>[x]++z3_ lo++z3_ hi
 | .ovl f x y=>[.f f,x,y]
 | .mkfn _ l c=>l++c
 | .box _ | .slice0 _=>[]
 | .call _ f args=>f :: args
 | .calln f args=>f :: args
def FOn (L:List Opd) (fr:zd_) (I:Nat->Prop) (w:World) (m:M) (a:Act):Prop:=∀ i,Opd.t i ∈ L->RV I w m (fr.get i) (a.tmps.getD i undef)
def AV.ids0:AV->List Nat
 | .ptr i _ | .own i | .view i _ _ | .rptr i _ _ | .mapv i | .bview i _ _ _ | .fnp _ i=>[i]
 | _=>[]
def zE_ (l:List AV):List Nat:=l.flatMap AV.ids0
def AV.ids1:AV->List Nat
 | .agg l=>zE_ l
 | v=>v.ids0
def ZN_ (l:List AV):List Nat:=l.flatMap AV.ids1
def AV.ids:AV->List Nat
 | .fn _ l c=>ZN_ l++ZN_ c
 | .tup l=>ZN_ l
 | v=>v.ids1
def zY_ (L:List Opd) (fr:zd_):List Nat:=L.flatMap fun x=>(x.ev fr).ids
theorem zj_ {L:List Opd} {fr:zd_} {x:Opd} {v:AV} (hx:x ∈ L) (e:x.ev fr=v):∀ i ∈ v.ids,i ∈ zY_ L fr:=fun i hi=>by
 unfold zY_;exact List.mem_flatMap.2 ⟨x,hx,by rw [e];exact hi⟩
theorem YY_ {v:AV} {c:List AV} (h:v.flat=some c):∀ i ∈ zE_ c,i ∈ v.ids:=by
 by_cases hf:∃ f l c,v=.fn f l c
 ·obtain ⟨f,l,cp,rfl⟩:=hf
  have h:WP_ f l cp=some c:=h
  unfold WP_ at h
  split at h
  ·split at h
   ·split at h
    ·cases h;intro i hi;simpa [zE_,AV.ids,AV.ids1,AV.ids0,ZN_] using hi
    ·cases h
   ·cases h
  ·cases h
 ·cases v<;>first | exact absurd ⟨_,_,_,rfl⟩ hf | (simp only [AV.flat,Option.some.injEq,reduceCtorEq] at h<;>subst h<;>intro i hi<;>simpa [zE_,AV.ids,AV.ids1] using hi)
section ops
variable {P:Program} {o:Oper} {I:Nat->Prop} {w:World} {m:M} {a:Act} {fr:zd_} {L:List Opd}
theorem Y5_ {v:Value} {x:AV} (h:wJ_ v x=true):RV0 I w m x v:=by
 unfold wJ_ at h
 split at h
 ·simp only [Bool.and_eq_true,beq_iff_eq] at h
  obtain ⟨⟨rfl,rfl⟩,h⟩:=h
  exact ⟨rfl,GR_ h⟩
 ·simp only [beq_iff_eq] at h;subst h;rfl
 ·simp only [beq_iff_eq] at h;subst h;rfl
 ·simp only [Bool.and_eq_true,beq_iff_eq,decide_eq_true_eq] at h
  exact ⟨_,rfl,h.1.symm,h.2⟩
 ·exact ⟨none,0,0,rfl,rfl,Nat.le_refl _,Nat.zero_le _,fun h=>absurd h (by omega)⟩
 ·rfl
 ·rfl
 ·rfl
 ·rfl
 ·cases h
theorem QV_:∀ {r:List Value} {l:List AV},QW_ r l=true->zO_ I w m l r
 | [],[],_=>trivial
 | v :: r,a :: l,h=>by
   simp only [QW_,Bool.and_eq_true] at h
   exact ⟨Y5_ h.1,QV_ h.2⟩
 | [],_ :: _,h=>by cases h
 | _ :: _,[],h=>by cases h
theorem FOn.rv (hf:FOn L fr I w m a) {x:Operand} {y:Opd} (hm:y ∈ L) (h:zx_ x y=true):RV I w m (y.ev fr) (a.eval x):=by
 unfold zx_ at h
 split at h
 ·simp only [beq_iff_eq] at h;subst h;exact hf _ hm
 ·exact G7_ (Y5_ h)
 ·simp only [beq_iff_eq] at h;subst h;exact ⟨#[],#[],rfl,trivial,trivial⟩
 ·cases h
theorem FOn.mono {L':List Opd} (hf:FOn L fr I w m a) (h:∀ x ∈ L',x ∈ L):FOn L' fr I w m a:=fun i hi=>hf i (h _ hi)
theorem zi_ {k:IntKind} {n:Int} {v:Value} (h:RV I w m (.int k n) v):v=.int k n/\inK k n:=h
theorem gx_ {b:Bool} {v:Value} (h:RV I w m (.bool b) v):v=.bool b:=h
theorem hf_ {b:Bool} {v:Value} (h:RV I w m (.kb b) v):v=.bool b:=h
theorem u4_ {a:AV} {b:Bool} {v:Value} (h:RV I w m a v) (e:a.toB=some b):v=.bool b:=by
 cases a<;>simp only [AV.toB,Option.some.injEq,reduceCtorEq] at e
 ·subst e;exact h
 ·subst e;exact h
theorem zS_ {k:IntKind} {n:Int} (h:inK k n):RV I w m (.int k n) (.int k n):=⟨rfl,h⟩
theorem ZT_ {b:Bool}:RV I w m (.bool b) (.bool b):=rfl
theorem ho_ {b:Bool}:RV I w m (.kb b) (.bool b):=rfl
theorem qB_ {n:Nat} (h:n<=maxLen):inK .i64 n:=by
 simp only [inK,IntKind.min,IntKind.max,IntKind.signed,IntKind.bits,if_true]
 unfold maxLen at h
 constructor<;>simp<;>omega
theorem UD_ {k:IntKind} {a b:Int} (ha:inK k a) (hb:b ≠ 0):inK k (a.tmod b):=by
 have h2:a.tmod b<=a.natAbs/\-(a.natAbs:Int)<=a.tmod b:=by
  have:=Int.natAbs_tmod a b
  have h3:=Nat.mod_le a.natAbs b.natAbs
  omega
 have h4:0<=a->0<=a.tmod b:=fun h=>Int.tmod_nonneg b h
 have h5:a<=0->a.tmod b<=0:=fun h=>by
  have:=Int.tmod_nonneg b (show 0<=-a by omega)
  rw [Int.neg_tmod] at this;omega
 cases k<;>simp only [inK,IntKind.min,IntKind.max,IntKind.signed,IntKind.bits] at ha ⊢<;>simp only [if_true,Bool.false_eq_true,if_false,Nat.reduceSub,Int.reducePow] at ha ⊢<;>omega
theorem UE_ {k:IntKind} {a:Int} {n:Nat} (ha:inK k a):inK k (a.fdiv (2 ^ n)):=by
 have hp:(0:Int) < 2 ^ n:=Int.pow_pos (by omega)
 have e:a.fdiv (2 ^ n)=a / 2 ^ n:=Int.fdiv_eq_ediv_of_nonneg a (Int.le_of_lt hp)
 rw [e]
 have h1:0<=a->0<=a / 2 ^ n/\a / 2 ^ n<=a:=fun h=>⟨Int.ediv_nonneg h (Int.le_of_lt hp),Int.ediv_le_self _ h⟩
 have h2:a < 0->a<=a / 2 ^ n/\a / 2 ^ n < 0:=fun h=>by
  refine ⟨?_,Int.ediv_neg_of_neg_of_pos h hp⟩
  rw [Int.le_ediv_iff_mul_le hp]
  have:a*2 ^ n<=a*1:=Int.mul_le_mul_of_nonpos_left (by omega) (by omega)
  omega
 cases k<;>simp only [inK,IntKind.min,IntKind.max,IntKind.signed,IntKind.bits] at ha ⊢<;>simp only [if_true,Bool.false_eq_true,if_false,Nat.reduceSub,Int.reducePow] at ha ⊢<;>
  rcases Int.lt_or_le a 0 with h | h<;>first | (have:=h2 h;omega) | (have:=h1 h;omega)
theorem zT_ (s:ByteArray):(zn_ s).length=s.size:=by unfold zn_;rw [List.length_map,Array.length_toList];rfl
theorem Vg_ {s t:ByteArray}:zn_ s=zn_ t ↔ s=t:=by
 constructor
 ·intro h
  unfold zn_ at h
  have:s.data.toList=t.data.toList:=by
   refine List.map_inj_right (f:=fun b:UInt8=>(b.toNat:Int)) ?_ |>.1 h
   intro x y hxy
   exact UInt8.toNat_inj.1 (Int.ofNat.inj hxy)
  cases s;cases t;congr 1;exact Array.toList_inj.1 this
 ·intro h;rw [h]
theorem toList_inj {s t:ByteArray}:s.toList=t.toList ↔ s=t:=by
 constructor
 ·intro h;rw [ByteArray.toList_eq,ByteArray.toList_eq] at h
  cases s;cases t;congr 1;exact Array.toList_inj.1 h
 ·intro h;rw [h]
theorem Xy_ (s t:ByteArray):(s.toList == t.toList)=decide (zn_ s=zn_ t):=by
 rw [Bool.eq_iff_iff];simp [Vg_,toList_inj]
theorem xZ_ (s t:ByteArray):zn_ (s++t)=zn_ s++zn_ t:=by
 unfold zn_;simp
theorem Kr_ (p q:Int):(p == q)=decide (p=q):=by rw [Bool.eq_iff_iff];simp
def POK (P:Program) (o:Oper) (L:List Opd) (fr:zd_) (K:AV->Prop):Prop:=
 ∃ v,K v/\∀ {I:Nat->Prop} {w:World} {m:M} {a:Act},FOn L fr I w m a->∃ cv,RV I w m v cv/\(execOp a.eval o).run P w=.ok (.value cv) w
theorem qR_ {S:Sem Value} {cv:Value} {w':World} (he:execOp a.eval o=(do pure (.value (<- S)))) (hr:S.run P w=.ok cv w'):(execOp a.eval o).run P w=.ok (.value cv) w':=by
 rw [he,Sem.run_bind,hr];rfl
theorem UP_ {S:Sem Unit} {w':World} (he:execOp a.eval o=(do S;pure .skip)) (hr:S.run P w=.ok () w'):(execOp a.eval o).run P w=.ok .skip w':=by
 rw [he,Sem.run_bind,hr];rfl
theorem uN_ {op:BinOp} {X Y:AV} {K:AV->Prop} (ev:qe_ op X Y K):
 ∃ v,K v/\∀ {P:Program} {I:Nat->Prop} {w:World} {m:M} {a:Act} {xt:TypeId} {x y:Operand},RV I w m X (a.eval x)->RV I w m Y (a.eval y)->
   ∃ cv,RV I w m v cv/\(do eqGuard op xt x y (a.eval x) (a.eval y);binOp op xt (a.eval x) (a.eval y)).run P w=.ok cv w:=by
 cases op with
 | add=>
   simp only [qe_] at ev
   split at ev
   ·rename_i p q
    obtain ⟨h0,hk⟩:=zf_ ev
    refine ⟨_,hk,fun {P I w m a xt x y} hx hy=>?_⟩
    obtain ⟨s1,e1,rfl,h1⟩:=hx
    obtain ⟨s2,e2,rfl,h2⟩:=hy
    rw [zT_,zT_] at h0
    refine ⟨.string (s1++s2),⟨_,rfl,(xZ_ s1 s2).symm,?_⟩,?_⟩
    ·rw [ByteArray.size_append];unfold maxLen;omega
    ·have hle:¬ (((s1.size+s2.size:Nat):Int) > IntKind.i64.max):=by
      simp only [IntKind.max,IntKind.signed,IntKind.bits,if_true];simp;omega
     rw [e1,e2]
     show (do eqGuard .add xt x y (.string s1) (.string s2);binOp .add xt (.string s1) (.string s2)).run P w=_
     simp only [binOp,Op.stringOp]
     rw [if_neg hle]
     simp [eqGuard]
   ·obtain ⟨k,p,q,rfl,rfl,ev'⟩:=zr_ ev;replace ev:=ev'
    refine ⟨_,qu_ ev,fun {P I w m a xt x y} hx hy=>⟨_,zS_ (Zc_ _ _),?_⟩⟩
    simp [(zi_ hx).1,(zi_ hy).1,eqGuard,binOp,Op.intArith]
 | sub=>
   simp only [qe_] at ev
   obtain ⟨k,p,q,rfl,rfl,ev'⟩:=zr_ ev;replace ev:=ev'
   refine ⟨_,qu_ ev,fun {P I w m a xt x y} hx hy=>⟨_,zS_ (Zc_ _ _),?_⟩⟩
   simp [(zi_ hx).1,(zi_ hy).1,eqGuard,binOp,Op.intArith]
 | mul=>
   simp only [qe_] at ev
   obtain ⟨k,p,q,rfl,rfl,ev'⟩:=zr_ ev;replace ev:=ev'
   refine ⟨_,qu_ ev,fun {P I w m a xt x y} hx hy=>⟨_,zS_ (Zc_ _ _),?_⟩⟩
   simp [(zi_ hx).1,(zi_ hy).1,eqGuard,binOp,Op.intArith]
 | quo=>
   simp only [qe_] at ev
   obtain ⟨k,p,q,rfl,rfl,ev'⟩:=zr_ ev;replace ev:=ev'
   obtain ⟨h0,ev⟩:=zf_ ev
   refine ⟨_,qu_ ev,fun {P I w m a xt x y} hx hy=>⟨_,zS_ (Zc_ _ _),?_⟩⟩
   simp [(zi_ hx).1,(zi_ hy).1,eqGuard,binOp,Op.intDiv,h0]
 | rem=>
   simp only [qe_] at ev
   obtain ⟨k,p,q,rfl,rfl,ev'⟩:=zr_ ev;replace ev:=ev'
   obtain ⟨h0,ev⟩:=zf_ ev
   refine ⟨_,ev,fun {P I w m a xt x y} hx hy=>⟨_,zS_ (UD_ (zi_ hx).2 h0),?_⟩⟩
   simp [(zi_ hx).1,(zi_ hy).1,eqGuard,binOp,Op.intDiv,h0]
 | and=>
   simp only [qe_] at ev
   obtain ⟨k,p,q,rfl,rfl,ev'⟩:=zr_ ev;replace ev:=ev'
   refine ⟨_,ev,fun {P I w m a xt x y} hx hy=>⟨_,zS_ (Zc_ _ _),?_⟩⟩
   simp [(zi_ hx).1,(zi_ hy).1,eqGuard,binOp,Op.intBits,qJ_]
 | or=>
   simp only [qe_] at ev
   obtain ⟨k,p,q,rfl,rfl,ev'⟩:=zr_ ev;replace ev:=ev'
   refine ⟨_,ev,fun {P I w m a xt x y} hx hy=>⟨_,zS_ (Zc_ _ _),?_⟩⟩
   simp [(zi_ hx).1,(zi_ hy).1,eqGuard,binOp,Op.intBits,qJ_]
 | xor=>
   simp only [qe_] at ev
   obtain ⟨k,p,q,rfl,rfl,ev'⟩:=zr_ ev;replace ev:=ev'
   refine ⟨_,ev,fun {P I w m a xt x y} hx hy=>⟨_,zS_ (Zc_ _ _),?_⟩⟩
   simp [(zi_ hx).1,(zi_ hy).1,eqGuard,binOp,Op.intBits,qJ_]
 | andNot=>
   simp only [qe_] at ev
   obtain ⟨k,p,q,rfl,rfl,ev'⟩:=zr_ ev;replace ev:=ev'
   refine ⟨_,ev,fun {P I w m a xt x y} hx hy=>⟨_,zS_ (Zc_ _ _),?_⟩⟩
   simp [(zi_ hx).1,(zi_ hy).1,eqGuard,binOp,Op.intBits,qJ_]
 | shl=>
   simp only [qe_] at ev
   split at ev
   ·rename_i k p k' q
    obtain ⟨h0,ev⟩:=zf_ ev
    refine ⟨_,qu_ ev,fun {P I w m a xt x y} hx hy=>⟨_,zS_ (Zc_ _ _),?_⟩⟩
    simp [(zi_ hx).1,(zi_ hy).1,eqGuard,binOp,Op.shift,show ¬ q < 0 by omega]
   ·exact ev.elim
 | shr=>
   simp only [qe_] at ev
   split at ev
   ·rename_i k p k' q
    obtain ⟨h0,ev⟩:=zf_ ev
    refine ⟨_,ev,fun {P I w m a xt x y} hx hy=>⟨_,zS_ (UE_ (zi_ hx).2),?_⟩⟩
    simp [(zi_ hx).1,(zi_ hy).1,eqGuard,binOp,Op.shift,show ¬ q < 0 by omega]
   ·exact ev.elim
 | eql=>
   simp only [qe_] at ev
   split at ev
   ·refine ⟨_,ev,fun {P I w m a xt x y} hx hy=>?_⟩
    obtain ⟨s1,e1,rfl,h1⟩:=hx
    obtain ⟨s2,e2,rfl,h2⟩:=hy
    exact ⟨_,ZT_,by simp [e1,e2,eqGuard,binOp,Op.stringOp,Xy_,bne]⟩
   ·obtain ⟨k,p,q,rfl,rfl,ev'⟩:=zr_ ev;replace ev:=ev'
    refine ⟨_,ev,fun {P I w m a xt x y} hx hy=>⟨_,ZT_,?_⟩⟩
    simp [(zi_ hx).1,(zi_ hy).1,eqGuard,binOp,Op.intCmp,Kr_]
 | neq=>
   simp only [qe_] at ev
   split at ev
   ·refine ⟨_,ev,fun {P I w m a xt x y} hx hy=>?_⟩
    obtain ⟨s1,e1,rfl,h1⟩:=hx
    obtain ⟨s2,e2,rfl,h2⟩:=hy
    exact ⟨_,ZT_,by simp [e1,e2,eqGuard,binOp,Op.stringOp,Xy_,bne]⟩
   ·obtain ⟨k,p,q,rfl,rfl,ev'⟩:=zr_ ev;replace ev:=ev'
    refine ⟨_,ev,fun {P I w m a xt x y} hx hy=>⟨_,ZT_,?_⟩⟩
    simp [(zi_ hx).1,(zi_ hy).1,eqGuard,binOp,Op.intCmp,bne,Kr_]
 | lss=>
   simp only [qe_] at ev
   obtain ⟨k,p,q,rfl,rfl,ev'⟩:=zr_ ev;replace ev:=ev'
   refine ⟨_,ev,fun {P I w m a xt x y} hx hy=>⟨_,ZT_,?_⟩⟩
   simp [(zi_ hx).1,(zi_ hy).1,eqGuard,binOp,Op.intCmp,Kr_]
 | leq=>
   simp only [qe_] at ev
   obtain ⟨k,p,q,rfl,rfl,ev'⟩:=zr_ ev;replace ev:=ev'
   refine ⟨_,ev,fun {P I w m a xt x y} hx hy=>⟨_,ZT_,?_⟩⟩
   simp [(zi_ hx).1,(zi_ hy).1,eqGuard,binOp,Op.intCmp,Kr_]
 | gtr=>
   simp only [qe_] at ev
   obtain ⟨k,p,q,rfl,rfl,ev'⟩:=zr_ ev;replace ev:=ev'
   refine ⟨_,ev,fun {P I w m a xt x y} hx hy=>⟨_,ZT_,?_⟩⟩
   simp [(zi_ hx).1,(zi_ hy).1,eqGuard,binOp,Op.intCmp,Kr_]
 | geq=>
   simp only [qe_] at ev
   obtain ⟨k,p,q,rfl,rfl,ev'⟩:=zr_ ev;replace ev:=ev'
   refine ⟨_,ev,fun {P I w m a xt x y} hx hy=>⟨_,ZT_,?_⟩⟩
   simp [(zi_ hx).1,(zi_ hy).1,eqGuard,binOp,Op.intCmp,Kr_]
theorem z2_ {b:Builtin} {args:Array Operand} {ts:Array TypeId}
 (ho:o.op=.call {callee:=.builtin b,args:=args,argTypes:=ts}):
 execOp a.eval o=builtin b ts o.type (args.map fun | .const _=>true | _=>false) (args.map a.eval):=by
 unfold execOp
 simp only [ho]
 rfl
theorem uU_ {op:UnOp} {X:AV} {K:AV->Prop} (ev:GW_ op X K):
 ∃ v,K v/\∀ {P:Program} {I:Nat->Prop} {w:World} {m:M} {x:Value},RV I w m X x->∃ cv,RV I w m v cv/\(Op.unary op x).run P w=.ok cv w:=by
 unfold GW_ at ev
 split at ev
 ·exact ⟨_,ev,fun {P I w m x} hx=>⟨_,ZT_,by rw [gx_ hx];simp [Op.unary]⟩⟩
 ·rename_i b
  exact ⟨_,ev,fun {P I w m x} hx=>⟨_,ho_,by rw [hf_ hx];cases b<;>simp [Op.unary]⟩⟩
 ·exact ⟨_,qu_ ev,fun {P I w m x} hx=>⟨_,zS_ (Zc_ _ _),by rw [(zi_ hx).1];simp [Op.unary,Op.intArith]⟩⟩
 ·exact ⟨_,ev,fun {P I w m x} hx=>⟨_,zS_ (Zc_ _ _),by rw [(zi_ hx).1];simp [Op.unary,Op.intBits,qJ_]⟩⟩
 ·exact ev.elim
theorem yJ_ {d:Nat} {t:TypeId} {p q:Bool} (ht:P.underlying t=some .bool):
 (Op.equalIn (d+1) t (.bool p) (.bool q)).run P w=.ok (p == q) w:=by
 unfold Op.equalIn
 simp only [Sem.run_bind,run_underlying ht,Result.andThen_ok,Sem.run_pure]
theorem GX_ {neg:Bool} {xt:TypeId} {x y:Operand} {u v:Value} {r:Bool}
 (hk:(∃ p q,u=.bool p/\v=.bool q)\/(∃ p q,u=.pointer p/\v=.pointer q)\/(∃ p q,u=.map p/\v=.map q)\/(∃ p n c q n' c',u=.slice p n c/\v=.slice q n' c')) (hr:(Op.equal xt u v).run P w=.ok r w):
 (do eqGuard (if neg then .neq else .eql) xt x y u v;binOp (if neg then .neq else .eql) xt u v).run P w=.ok (.bool (match neg with | true=>!r | false=>r)) w:=by
 cases neg
 ·have e:(do eqGuard .eql xt x y u v;binOp .eql xt u v:Sem Value)=(do let r <- Op.equal xt u v;pure (.bool r)):=by
   rcases hk with ⟨p,q,rfl,rfl⟩ | ⟨p,q,rfl,rfl⟩ | ⟨p,q,rfl,rfl⟩ | ⟨p,n,c,q,n',c',rfl,rfl⟩<;>rfl
  show (do eqGuard .eql xt x y u v;binOp .eql xt u v:Sem Value).run P w=_
  rw [e,Sem.run_bind,hr];rfl
 ·have e:(do eqGuard .neq xt x y u v;binOp .neq xt u v:Sem Value)=(do let r <- Op.equal xt u v;pure (.bool (!r))):=by
   rcases hk with ⟨p,q,rfl,rfl⟩ | ⟨p,q,rfl,rfl⟩ | ⟨p,q,rfl,rfl⟩ | ⟨p,n,c,q,n',c',rfl,rfl⟩<;>rfl
  show (do eqGuard .neq xt x y u v;binOp .neq xt u v:Sem Value).run P w=_
  rw [e,Sem.run_bind,hr];rfl
theorem Jh_ {t:TypeId} {d:TypeDesc} (h:P.underlying t=some d) (w:World):(isAgg t).run P w=.ok (g9_ d) w:=by
 unfold isAgg
 rw [Sem.run_bind,run_underlying h]
 cases d<;>rfl
theorem zt_ {t:TypeId} {i:TypeInfo} (h:P.info? t=some i) (w:World):(sizeOf t).run P w=.ok i.size w:=by
 unfold sizeOf typeInfo
 simp [h]
theorem Jp_ {t:TypeId} {n:Option Nat} (h:nOk P t n=true):
 ∃ d i,P.underlying t=some d/\P.info? t=some i/\((g9_ d=true/\n=some i.size)\/(g9_ d=false/\n=none/\i.size=1)):=by
 unfold nOk at h
 split at h
 ·rename_i d i hd hi
  refine ⟨d,i,hd,hi,?_⟩
  split at h
  ·rename_i hb;exact .inl ⟨hb,by simpa using h⟩
  ·rename_i hb;simp only [Bool.and_eq_true,beq_iff_eq] at h;exact .inr ⟨hb,h.1,h.2⟩
 ·cases h
theorem Z2_ {t:TypeId} {i:TypeInfo} {v:Value} (h:P.info? t=some i) (hz:i.zero=some v):(zeroValue t).run P w=.ok v w:=by
 simp [zeroValue,typeInfo,h,hz]
theorem x1_ {t:TypeId} {z:List AV} (h:XJ_ P t z=true):∃ i v,P.info? t=some i/\i.zero=some v/\QW_ v.cells.toList z=true:=by
 unfold XJ_ at h
 split at h
 ·rename_i i hi
  split at h
  ·rename_i v hv;exact ⟨i,v,hi,hv,h⟩
  ·cases h
 ·cases h
end ops
end Go.Eng
namespace Go.Eng
set_option linter.unusedVariables false
set_option linter.unusedSimpArgs false
set_option maxRecDepth 10000
open Go.RowKit
def hG_:Leaf->Value->Prop
 | .int k,v=>∃ n,v=.int k n/\inK k n
 | .bool,v=>∃ b,v=.bool b
 | .str,v=>∃ s:ByteArray,v=.string s/\s.size<=maxLen
def Q5_:List Leaf->List Value->Prop
 | [],[]=>True
 | k :: ks,v :: vs=>hG_ k v/\Q5_ ks vs
 | _,_=>False
def qW_:Value->Lit
 | .int k n=>.int k n
 | .bool b=>.bool b
 | .string s=>.string s.data.toList
 | _=>.nil
theorem Q5_.length:∀ {ks:List Leaf} {vs:List Value},Q5_ ks vs->vs.length=ks.length
 | [],[],_=>rfl
 | k :: ks,v :: vs,h=>by simp [Q5_.length h.2]
 | [],_ :: _,h=>h.elim
 | _ :: _,[],h=>h.elim
theorem Q5_.split:∀ {ks ks':List Leaf} {vs:List Value},Q5_ (ks++ks') vs->Q5_ ks (vs.take ks.length)/\Q5_ ks' (vs.drop ks.length)
 | [],ks',vs,h=>by simpa [Q5_] using h
 | k :: ks,ks',v :: vs,h=>by
   have:=Q5_.split (ks:=ks) (ks':=ks') h.2
   exact ⟨⟨h.1,this.1⟩,this.2⟩
 | k :: ks,ks',[],h=>h.elim
theorem JZ_ {P:Program} {D:Nat} {rec:TypeId->Option (List Leaf)} (hrec:∀ t ks cs,rec t=some ks->Q5_ ks cs->P.keyLits D t cs=some (cs.map qW_)) (all:List Value):∀ (fs:List Field) (off:Nat) (ks:List Leaf),kj_ P.cellsOf rec fs off=some ks->Q5_ ks (all.drop off)->
 ∃ Ls,fs.mapM (fun f=>P.keyLits D f.type ((all.drop f.offset).take (P.cellsOf f.type)))=some Ls/\Ls.flatten=(all.drop off).map qW_
 | [],off,ks,h,hf=>by
   simp only [kj_,Option.some.injEq] at h
   subst h
   have:all.drop off=[]:=List.length_eq_zero_iff.1 hf.length
   exact ⟨[],rfl,by rw [this];rfl⟩
 | f :: r,off,ks,h,hf=>by
   simp only [kj_] at h
   split at h
   ·rename_i hc
    obtain ⟨h1,h2⟩:=hc
    cases hk:rec f.type with
    | none=>rw [hk] at h;cases h
    | some ks1=>
      rw [hk] at h
      simp only [Option.bind_some] at h
      split at h
      ·rename_i hl
       simp only [Option.map_eq_some_iff] at h
       obtain ⟨ks2,h3,rfl⟩:=h
       obtain ⟨g1,g2⟩:=hf.split
       rw [List.drop_drop] at g2
       obtain ⟨Ls,e1,e2⟩:=JZ_ hrec all r (off+ks1.length) ks2 h3 g2
       have e3:=hrec _ _ _ hk g1
       refine ⟨((all.drop off).take ks1.length).map qW_ :: Ls,?_,?_⟩
       ·rw [List.mapM_cons,h1,<- hl,e3,e1];rfl
       ·rw [List.flatten_cons,e2,<- List.map_append]
        congr 1
        rw [<- List.drop_drop,List.take_append_drop]
      ·cases h
   ·cases h
theorem Wr_ {P:Program} {D:Nat} {e:TypeId} {ks:List Leaf} (hrec:∀ cs,Q5_ ks cs->P.keyLits D e cs=some (cs.map qW_)) (all:List Value):∀ (n start:Nat),Q5_ (List.replicate n ks).flatten (all.drop (start*ks.length))->
 ∃ Ls,(List.range' start n).mapM (fun i=>P.keyLits D e ((all.drop (i*ks.length)).take ks.length))=some Ls/\Ls.flatten=(all.drop (start*ks.length)).map qW_
 | 0,start,hf=>by
   have:all.drop (start*ks.length)=[]:=List.length_eq_zero_iff.1 hf.length
   exact ⟨[],rfl,by rw [this];rfl⟩
 | n+1,start,hf=>by
   rw [List.replicate_succ,List.flatten_cons] at hf
   obtain ⟨g1,g2⟩:=hf.split
   rw [List.drop_drop,show start*ks.length+ks.length=(start+1)*ks.length by rw [Nat.add_mul,Nat.one_mul]] at g2
   obtain ⟨Ls,e1,e2⟩:=Wr_ hrec all n (start+1) g2
   refine ⟨((all.drop (start*ks.length)).take ks.length).map qW_ :: Ls,?_,?_⟩
   ·rw [List.range'_succ,List.mapM_cons,hrec _ g1,e1];rfl
   ·rw [List.flatten_cons,e2,<- List.map_append]
    congr 1
    rw [show (start+1)*ks.length=start*ks.length+ks.length by rw [Nat.add_mul,Nat.one_mul],<- List.drop_drop,List.take_append_drop]
theorem kk_ {P:Program}:∀ (D:Nat) (t:TypeId) (ks:List Leaf) (cs:List Value),Zj_ P D t=some ks->Q5_ ks cs->P.keyLits D t cs=some (cs.map qW_)
 | 0,_,_,_,h,_=>by cases h
 | D+1,t,ks,cs,h,hf=>by
   unfold Zj_ at h
   unfold Program.keyLits
   split at h
   ·rename_i hu
    cases h
    cases cs with
    | nil=>exact hf.elim
    | cons v r=>
      obtain ⟨⟨b,rfl⟩,h2⟩:=hf
      cases r with
      | cons _ _=>exact (h2:False).elim
      | nil=>rw [hu];rfl
   ·rename_i k hu
    cases h
    cases cs with
    | nil=>exact hf.elim
    | cons v r=>
      obtain ⟨⟨n,rfl,hn⟩,h2⟩:=hf
      cases r with
      | cons _ _=>exact (h2:False).elim
      | nil=>
        rw [hu]
        have:(Lit.int k n).wf=true:=by simp only [Lit.wf,Bool.and_eq_true,decide_eq_true_eq];exact hn
        simp [this,qW_]
   ·rename_i hu
    cases h
    cases cs with
    | nil=>exact hf.elim
    | cons v r=>
      obtain ⟨⟨s,rfl,hs⟩,h2⟩:=hf
      cases r with
      | cons _ _=>exact (h2:False).elim
      | nil=>rw [hu];simp [hs,qW_]
   ·rename_i n e hu
    cases hk:Zj_ P D e with
    | none=>rw [hk] at h;cases h
    | some ks1=>
      rw [hk] at h
      simp only [Option.bind_some] at h
      split at h
      ·rename_i hl
       cases h
       obtain ⟨Ls,e1,e2⟩:=Wr_ (P:=P) (D:=D) (e:=e) (fun cs hc=>kk_ D e ks1 cs hk hc) cs n 0 (by simpa using hf)
       have hlen:cs.length=P.cellsOf t:=by rw [hf.length,hl.2];simp
       rw [hu]
       simp only [hlen,if_true]
       rw [<- hl.1,List.range_eq_range',e1]
       simp only [Option.map_some,e2,Nat.zero_mul,List.drop_zero]
      ·cases h
   ·rename_i fs hu
    cases hk:kj_ P.cellsOf (Zj_ P D) fs.toList 0 with
    | none=>rw [hk] at h;cases h
    | some ks1=>
      rw [hk] at h
      simp only [Option.bind_some] at h
      split at h
      ·rename_i hl
       cases h
       obtain ⟨Ls,e1,e2⟩:=JZ_ (P:=P) (D:=D) (fun t ks cs h hc=>kk_ D t ks cs h hc) cs fs.toList 0 _ hk (by simpa using hf)
       have hlen:cs.length=P.cellsOf t:=by rw [hf.length,hl]
       have hn : fs.all (·.name != "_") = true := by
        rw [Array.all_eq_true']
        have key : ∀ (l : List Field) (off : Nat) (ks : List Leaf), kj_ P.cellsOf (Zj_ P D) l off = some ks -> ∀ f ∈ l, f.name ≠ "_" := fun l => by
         induction l with
         | nil=>intro _ _ _ f hf;cases hf
         | cons g r ih=>
           intro off ks h f hf
           simp only [kj_] at h
           split at h
           ·rename_i hc
            rcases List.mem_cons.1 hf with rfl | hf
            ·exact hc.2
            ·cases hk:Zj_ P D g.type with
             | none=>rw [hk] at h;cases h
             | some k1=>
               rw [hk] at h
               simp only [Option.bind_some] at h
               split at h
               ·simp only [Option.map_eq_some_iff] at h
                obtain ⟨k2,h3,_⟩:=h
                exact ih _ _ h3 f hf
               ·cases h
           ·cases h
        intro f hf
        simpa using key _ _ _ hk f (by simpa using hf)
       rw [hu]
       simp only [hlen,hn,true_and,if_true,and_self]
       rw [e1]
       simp only [Option.map_some,e2,List.drop_zero]
      ·cases h
   ·cases h
theorem YC_ {P:Program} {d:Nat} {t:TypeId} {ks:List Leaf} (h:Zj_ P d t=some ks) (hw:Ww_ P t=true):ks.length=P.cellsOf t:=by
 cases d with
 | zero=>cases h
 | succ d=>
   unfold Zj_ at h
   unfold Ww_ at hw
   split at h
   ·rename_i hu;rw [hu] at hw;cases hw
   ·rename_i hu;rw [hu] at hw;cases hw
   ·rename_i hu;rw [hu] at hw;cases hw
   ·cases hk:Zj_ P d _ with
    | none=>rw [hk] at h;cases h
    | some k=>
      rw [hk] at h
      simp only [Option.bind_some] at h
      split at h
      ·rename_i hl;cases h;rw [hl.2];simp
      ·cases h
   ·cases hk:kj_ P.cellsOf (Zj_ P d) _ 0 with
    | none=>rw [hk] at h;cases h
    | some k=>
      rw [hk] at h
      simp only [Option.bind_some] at h
      split at h
      ·rename_i hl;cases h;exact hl
      ·cases h
   ·cases h
theorem Y9_ {s t:ByteArray}:zn_ s=zn_ t ↔ s.data.toList=t.data.toList:=by
 constructor
 ·intro h
  unfold zn_ at h
  exact (List.map_inj_right (fun a b e=>UInt8.toNat_inj.1 (Int.ofNat.inj e))).1 h
 ·intro h;unfold zn_;rw [h]
theorem ko_:∀ {ks:List Leaf} {l l':List AV} {K:Bool->Prop},Y1_ ks l l' K->∃ b,K b/\∀ {I:Nat->Prop} {w:World} {m:M} {cs cs':List Value},zO_ I w m l cs->zO_ I w m l' cs'->Q5_ ks cs/\Q5_ ks cs'/\(b=true ↔ cs.map qW_=cs'.map qW_)
 | [],[],[],K,h=>⟨true,h,fun {I w m cs cs'} h1 h2=>by
   cases cs with
   | cons _ _=>exact h1.elim
   | nil=>cases cs' with
     | cons _ _=>exact h2.elim
     | nil=>exact ⟨trivial,trivial,by simp⟩⟩
 | .int q :: ks,v :: r,v' :: r',K,h=>by
   cases v with
   | int k a=>cases v' with
     | int k' b=>
       unfold Y1_ at h
       split at h
       ·rename_i e1 _
        split at h
        ·rename_i e2 _
         subst e1;subst e2
         obtain ⟨t,hK,ht⟩:=ko_ h
         refine ⟨_,hK,fun {I w m cs cs'} h1 h2=>?_⟩
         cases cs with
         | nil=>exact h1.elim
         | cons c cs=>cases cs' with
           | nil=>exact h2.elim
           | cons c' cs'=>
             obtain ⟨⟨rfl,n1⟩,h1⟩:=h1
             obtain ⟨⟨rfl,n2⟩,h2⟩:=h2
             obtain ⟨g1,g2,g3⟩:=ht h1 h2
             refine ⟨⟨⟨_,rfl,n1⟩,g1⟩,⟨⟨_,rfl,n2⟩,g2⟩,?_⟩
             simp only [List.map_cons,List.cons.injEq,Bool.and_eq_true,decide_eq_true_eq,g3,qW_,Lit.int.injEq,true_and]
        ·exact h.elim
       ·exact h.elim
     | _=>exact (h:False).elim
   | _=>exact (h:False).elim
 | .str :: ks,v :: r,v' :: r',K,h=>by
   cases v with
   | str a=>cases v' with
     | str b=>
       unfold Y1_ at h
       obtain ⟨t,hK,ht⟩:=ko_ h
       refine ⟨_,hK,fun {I w m cs cs'} h1 h2=>?_⟩
       cases cs with
       | nil=>exact h1.elim
       | cons c cs=>cases cs' with
         | nil=>exact h2.elim
         | cons c' cs'=>
           obtain ⟨⟨s,rfl,rfl,n1⟩,h1⟩:=h1
           obtain ⟨⟨s',rfl,rfl,n2⟩,h2⟩:=h2
           obtain ⟨g1,g2,g3⟩:=ht h1 h2
           refine ⟨⟨⟨_,rfl,n1⟩,g1⟩,⟨⟨_,rfl,n2⟩,g2⟩,?_⟩
           simp only [List.map_cons,List.cons.injEq,Bool.and_eq_true,decide_eq_true_eq,g3,qW_,Lit.string.injEq,Y9_]
     | _=>exact (h:False).elim
   | _=>exact (h:False).elim
 | .bool :: ks,v :: r,v' :: r',K,h=>by
   unfold Y1_ at h
   split at h
   ·rename_i a ea
    split at h
    ·rename_i b eb
     obtain ⟨t,hK,ht⟩:=ko_ h
     refine ⟨_,hK,fun {I w m cs cs'} h1 h2=>?_⟩
     have tb:∀ {v:AV} {a:Bool} {c:Value},v.toB=some a->RV0 I w m v c->c=.bool a:=fun {v a c} e h=>by
      cases v<;>simp only [AV.toB,Option.some.injEq,reduceCtorEq] at e<;>subst e<;>exact h
     cases cs with
     | nil=>exact h1.elim
     | cons c cs=>cases cs' with
       | nil=>exact h2.elim
       | cons c' cs'=>
         obtain ⟨h1a,h1⟩:=h1
         obtain ⟨h2a,h2⟩:=h2
         rw [tb ea h1a,tb eb h2a]
         obtain ⟨g1,g2,g3⟩:=ht h1 h2
         refine ⟨⟨⟨_,rfl⟩,g1⟩,⟨⟨_,rfl⟩,g2⟩,?_⟩
         simp only [List.map_cons,List.cons.injEq,Bool.and_eq_true,beq_iff_eq,g3,qW_,Lit.bool.injEq]
    ·exact h.elim
   ·exact h.elim
 | [],[],_ :: _,_,h=>h.elim
 | [],_ :: _,_,_,h=>h.elim
 | .int _ :: _,[],_,_,h=>h.elim
 | .str :: _,[],_,_,h=>h.elim
 | .bool :: _,[],_,_,h=>h.elim
 | .bool :: _,_ :: _,[],_,h=>h.elim
 | .int _ :: _,v :: _,[],_,h=>by cases v<;>exact (h:False).elim
 | .str :: _,v :: _,[],_,h=>by cases v<;>exact (h:False).elim
theorem gX_ {P:Program} {w:World} {xt:TypeId} {ks:List Leaf} {cs cs':Array Value} {b neg:Bool} {x y:Operand} (hk:P.keyTypeAt 8 xt=true) (hw:Ww_ P xt=true) (hks:Zj_ P 8 xt=some ks) (hg:P.eqGuardType P.depth xt=false)
 (h1:Q5_ ks cs.toList) (h2:Q5_ ks cs'.toList) (hb:b=true ↔ cs.toList.map qW_=cs'.toList.map qW_):
 (do eqGuard (if neg then .neq else .eql) xt x y (.agg cs) (.agg cs');binOp (if neg then .neq else .eql) xt (.agg cs) (.agg cs')).run P w=.ok (.bool (match neg with | true=>!b | false=>b)) w:=by
 have hl:=YC_ hks hw
 have fm:∀ {c:Array Value},Q5_ ks c.toList->(Value.agg c).formed P xt=true:=fun {c} h=>by
  unfold Ww_ at hw
  have hs:c.size=P.cellsOf xt:=by rw [<- hl,<- h.length];simp
  simp only [Value.formed]
  split at hw
  ·rename_i e;rw [e];simp [hs]
  ·rename_i e;rw [e];simp [hs]
  ·cases hw
 obtain ⟨r,hr,hri⟩:=run_equalIn_deep (P:=P) 9992 8 xt hk w 8 8 (.agg cs) (.agg cs') _ _ (fm h1) (fm h2) (kk_ 8 xt ks cs.toList hks h1) (kk_ 8 xt ks cs'.toList hks h2)
 have hrb:r=b:=by
  cases r<;>cases b<;>first | rfl | (have:=hri.1 rfl;have:=hb.2 this;cases this) | (have:=hb.1 rfl;have:=hri.2 this;cases this)
 subst hrb
 have hr':(Op.equalIn 10000 xt (.agg cs) (.agg cs')).run P w=.ok r w:=hr
 cases neg
 ·show (do eqGuard .eql xt x y (.agg cs) (.agg cs');binOp .eql xt (.agg cs) (.agg cs'):Sem Value).run P w=_
  rw [Sem.run_bind,run_eqGuard_agg w .eql xt x y cs cs' hg]
  simp only [Result.andThen_ok]
  rw [run_eql_struct,hr'];rfl
 ·show (do eqGuard .neq xt x y (.agg cs) (.agg cs');binOp .neq xt (.agg cs) (.agg cs'):Sem Value).run P w=_
  rw [Sem.run_bind,run_eqGuard_agg w .neq xt x y cs cs' hg]
  simp only [Result.andThen_ok]
  rw [run_neq_struct,hr'];rfl
end Go.Eng
