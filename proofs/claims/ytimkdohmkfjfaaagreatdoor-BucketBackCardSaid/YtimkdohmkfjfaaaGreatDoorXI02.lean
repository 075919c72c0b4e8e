/- Parts of the proof: EEqs. No condition. -/
import Derived.Test.YtimkdohmkfjfaaaGreatDoorXI01
import Derived.ChangeKeysEq
import Derived.DeepKeys
import Derived.Laws.StructEq
namespace Go.Eng
set_option linter.unusedVariables false
set_option linter.unusedSimpArgs false
open Go.RowKit
def inKB (k:IntKind) (n:Int):Bool:=decide (k.min<=n) && decide (n<=k.max)
theorem zbP_ {k:IntKind} {n:Int} (h:inKB k n=true):inK k n:=by
 simp only [inKB,Bool.and_eq_true,decide_eq_true_eq] at h;exact h
theorem Z9_ (k:IntKind) (n:Int):inK k (k.wrap n):=by
 cases k<;>simp [inK,IntKind.wrap,IntKind.min,IntKind.max,IntKind.signed,IntKind.bits]<;>(try split)<;>omega
theorem yq_ {k:IntKind} {n:Int} (h:inK k n):k.wrap n=n:=by
 cases k<;>simp [inK,IntKind.wrap,IntKind.min,IntKind.max,IntKind.signed,IntKind.bits] at h ⊢<;>(try split)<;>omega
theorem QH_ {k:IntKind} {n:Int} {K:Int->Prop} (h:ari k n K):K (k.wrap n):=by
 refine h _ ⟨fun h1 h2=>?_,fun h=>h⟩
 rw [yq_ h1];exact h2
theorem zL_ {x y:AV} {K:IntKind->Int->Int->Prop} (h:Qx_ x y K):∃ k a b,x=.int k a/\y=.int k b/\K k a b:=by
 unfold Qx_ at h
 split at h
 ·split at h
  ·rename_i hk _;subst hk;exact ⟨_,_,_,rfl,rfl,h⟩
  ·exact h.elim
 ·exact h.elim
theorem Zl_ {t' t:Ty} {x:List t'.den} {K:List t.den->Prop} (h:k9_ t' t x K):∃ e:t'=t,K (e ▸ x):=by
 exact h _ ⟨fun e k=>⟨e,k⟩⟩
theorem BK_ {t:Ty} {x:List t.den} {K:List t.den->Prop} (h:K x):k9_ t t x K:=fun _ k=>zb_ k h
theorem h8_:∀ {t:Ty} {l:List AV} {K:t.den->List AV->Prop},t.ofK l K ↔ ∃ x r,t.ofCells l=some (x,r)/\K x r:=fun {t}=>by
 induction t with
 | cons a b iha ihb=>
   intro l K
   unfold Ty.ofK Ty.ofCells
   rw [iha]
   constructor
   ·rintro ⟨x,r,h1,h2⟩
    obtain ⟨y,r',h3,h4⟩:=ihb.1 h2
    exact ⟨(x,y),r',by simp only [h1,h3],h4⟩
   ·rintro ⟨x,r,h1,h2⟩
    split at h1
    ·rename_i x' r' e1
     split at h1
     ·rename_i y' r2 e2
      cases h1
      exact ⟨x',r',e1,ihb.2 ⟨y',r,e2,h2⟩⟩
     ·cases h1
    ·cases h1
 | int k=>
   intro l K
   cases l with
   | nil=>exact ⟨fun h=>False.elim h,fun ⟨_,_,e,_⟩=>by cases e⟩
   | cons v r=>
     cases v with
     | int k' n=>
       unfold Ty.ofK Ty.ofCells
       cases decEq k k' with
       | isTrue=>exact ⟨fun h=>⟨n,r,rfl,h⟩,fun ⟨x,r,e,h⟩=>by cases e;exact h⟩
       | isFalse=>exact ⟨fun h=>False.elim h,fun ⟨_,_,e,_⟩=>by cases e⟩
     | _=>exact ⟨fun h=>False.elim h,fun ⟨_,_,e,_⟩=>by cases e⟩
 | bool=>
   intro l K
   cases l with
   | nil=>exact ⟨fun h=>False.elim h,fun ⟨_,_,e,_⟩=>by cases e⟩
   | cons v r=>
     cases v with
     | bool b=>exact ⟨fun h=>⟨b,r,rfl,h⟩,fun ⟨x,r,e,h⟩=>by cases e;exact h⟩
     | kb b=>exact ⟨fun h=>⟨b,r,rfl,h⟩,fun ⟨x,r,e,h⟩=>by cases e;exact h⟩
     | _=>exact ⟨fun h=>False.elim h,fun ⟨_,_,e,_⟩=>by cases e⟩
 | str=>
   intro l K
   cases l with
   | nil=>exact ⟨fun h=>False.elim h,fun ⟨_,_,e,_⟩=>by cases e⟩
   | cons v r=>
     cases v with
     | str b=>exact ⟨fun h=>⟨b,r,rfl,h⟩,fun ⟨x,r,e,h⟩=>by cases e;exact h⟩
     | _=>exact ⟨fun h=>False.elim h,fun ⟨_,_,e,_⟩=>by cases e⟩
 | nil=>intro l K;unfold Ty.ofK Ty.ofCells;exact ⟨fun h=>⟨(),l,rfl,h⟩,fun ⟨x,r,e,h⟩=>by cases e;exact h⟩
 | sl t _=>
   intro l K
   cases l with
   | nil=>exact ⟨fun h=>False.elim h,fun ⟨_,_,e,_⟩=>by cases e⟩
   | cons v r=>
     cases v with
     | nils=>exact ⟨fun h=>⟨[],r,rfl,h⟩,fun ⟨x,r,e,h⟩=>by cases e;exact h⟩
     | imm t' x=>
       unfold Ty.ofK Ty.ofCells
       constructor
       ·intro h
        obtain ⟨rfl,h⟩:=Zl_ h
        exact ⟨x,r,by split<;>first | rfl | (rename_i hd _;exact absurd rfl hd),h⟩
       ·rintro ⟨y,r',e,h⟩
        split at e
        ·rename_i hd _
         subst hd
         cases e
         exact BK_ h
        ·cases e
     | _=>exact ⟨fun h=>False.elim h,fun ⟨_,_,e,_⟩=>by cases e⟩
theorem wX_ {t:Ty} {l:List AV} {K:t.den->Prop} (h:t.oneQ l K):∃ x,t.one l=some x/\K x:=by
 unfold Ty.oneQ at h
 obtain ⟨x,r,h1,h2⟩:=h8_.1 h
 cases r with
 | nil=>exact ⟨x,by unfold Ty.one;rw [h1],h2⟩
 | cons=>exact h2.elim
theorem kT_ {t:Ty}:∀ {n:Nat} {l:List AV} {K:List t.den->Prop},t.allK n l K ↔ ∃ x,t.all n l=some x/\K x
 | 0,[],K=>by simp [Ty.allK,Ty.all]
 | 0,_ :: _,K=>by simp [Ty.allK,Ty.all]
 | n+1,l,K=>by
   unfold Ty.allK Ty.all
   rw [h8_]
   constructor
   ·rintro ⟨x,r,h1,h2⟩
    obtain ⟨y,h3,h4⟩:=kT_.1 h2
    exact ⟨x :: y,by simp only [h1,h3],h4⟩
   ·rintro ⟨x,h1,h2⟩
    split at h1
    ·rename_i x' r' e1
     split at h1
     ·rename_i y' e2
      cases h1
      exact ⟨x',r',e1,kT_.2 ⟨y',e2,h2⟩⟩
     ·cases h1
    ·cases h1
def yy_:Value->AV->Bool
 | .int k n,.int k' n'=>k == k' && n == n' && inKB k n
 | .bool b,.kb b'=>b == b'
 | .bool b,.bool b'=>b == b'
 | .string s,.str l=>zG_ s == l && decide (s.size<=maxLen)
 | .slice none 0 0,.imm _ []=>true
 | .slice none 0 0,.nils=>true
 | .pointer none,.nilp=>true
 | .map none,.nilm=>true
 | .nilFunc,.undef=>true
 | _,_=>false
def zR_:Operand->Opd->Bool
 | .tmp i,.t j=>i == j
 | .const v,.c a=>yy_ v a
 | .func f,.f i=>f == i
 | _,_=>false
def Zm_:List Operand->List Opd->Bool
 | [],[]=>true
 | x :: r,y :: l=>zR_ x y && Zm_ r l
 | _,_=>false
def h6_:Option Operand->Option Opd->Bool
 | none,none=>true
 | some x,some y=>zR_ x y
 | _,_=>false
def kd_ (P:Program) (t:TypeId) (n:Nat):Bool:=match P.info? t with | some i=>i.size == n | none=>false
def xb_ (P:Program) (t:TypeId) (n:Nat):Bool:=match P.info? t with | some i=>i.bytes == n | none=>false
theorem qf_ {P:Program} {t:TypeId} {n:Nat} (h:kd_ P t n=true):∃ i,P.info? t=some i/\i.size=n:=by
 unfold kd_ at h;split at h
 ·rename_i i hi;exact ⟨i,hi,by simpa using h⟩
 ·cases h
theorem Wc_ {P:Program} {t:TypeId} {n:Nat} (h:xb_ P t n=true):∃ i,P.info? t=some i/\i.bytes=n:=by
 unfold xb_ at h;split at h
 ·rename_i i hi;exact ⟨i,hi,by simpa using h⟩
 ·cases h
def aggB:TypeDesc->Bool | .struct _=>true | .array _ _=>true | _=>false
def nOk (P:Program) (t:TypeId) (n:Option Nat):Bool:=
 match P.underlying t,P.info? t with
 | some d,some i=>match aggB d with | true=>n == some i.size | false=>n == none && i.size == 1
 | _,_=>false
def QV_ (place:Nat->Option (Nat × Nat)):List (Nat × Operand)->List (Nat × Nat × Opd)->Bool
 | [],[]=>true
 | (i,x) :: r,(off,size,y) :: l=>(match place i with | some (o,n)=>o == off && n == size | none=>false) && zR_ x y && QV_ place r l
 | _,_=>false
def KI_:List Value->List AV->Bool
 | [],[]=>true
 | v :: r,a :: l=>yy_ v a && KI_ r l
 | _,_=>false
def V3_ (P:Program) (t:TypeId) (z:List AV):Bool:=
 match P.info? t with | some i=>(match i.zero with | some v=>KI_ v.cells.toList z | none=>false) | none=>false
def GB_ (P:Program) (t:TypeId) (ty:Ty) (z:ty.den):Bool:=
 match P.info? t with
 | some i=>(match i.zero with
   | some v=>(match ty.one (ty.cells z) with | some _=>true | none=>false) && KI_ v.cells.toList (ty.cells z)
   | none=>false)
 | none=>false
def he_ (P:Program) (t:TypeId):Bool:=match P.underlying t with | some .bool=>true | _=>false
def Bh_ (P:Program) (t:TypeId):Bool:=match P.underlying t with | some (.pointer _)=>true | _=>false
def u0_ (P:Program) (t:TypeId):Bool:=match P.underlying t with | some (.map _ _)=>true | _=>false
def KF_ (P:Program) (t:TypeId):Bool:=match P.underlying t with | some (.slice _)=>true | _=>false
def gK_ (P:Program) (t:TypeId):Bool:=match P.underlying t with | some .string=>true | _=>false
def kM_ (P:Program) (t:TypeId):Option TypeId:=match P.underlying t with | some (.slice e)=>some e | _=>none
theorem qL_ {P:Program} {t e:TypeId} (h:kM_ P t=some e):P.underlying t=some (.slice e):=by
 unfold kM_ at h;split at h
 ·cases h;assumption
 ·cases h
theorem HY_ {P:Program} {t:TypeId} (h:he_ P t=true):P.underlying t=some .bool:=by unfold he_ at h;split at h<;>first | assumption | cases h
theorem YF_ {P:Program} {t:TypeId} (h:gK_ P t=true):P.underlying t=some .string:=by unfold gK_ at h;split at h<;>first | assumption | cases h
theorem Bg_ {P:Program} {t:TypeId} (h:Bh_ P t=true):∃ e,P.underlying t=some (.pointer e):=by unfold Bh_ at h;split at h<;>first | exact ⟨_,by assumption⟩ | cases h
theorem gL_ {P:Program} {t:TypeId} (h:u0_ P t=true):∃ k e,P.underlying t=some (.map k e):=by unfold u0_ at h;split at h<;>first | exact ⟨_,_,by assumption⟩ | cases h
theorem K8_ {P:Program} {t:TypeId} (h:KF_ P t=true):∃ e,P.underlying t=some (.slice e):=by unfold KF_ at h;split at h<;>first | exact ⟨_,by assumption⟩ | cases h
def G9_:Operand->Bool
 | .const (.slice none 0 0)=>true
 | _=>false
def zD_ (P:Program) (o:Op) (io:IOp):Bool:=
 match io with
 | .mov y=>match o with | .move x=>zR_ x y | .assign x=>zR_ x y | _=>false
 | .bin op' x' y'=>match o with | .binOp op _ x y _=>op == op' && zR_ x x' && zR_ y y' | _=>false
 | .eqb neg x' y'=>match o with
   | .binOp op xt x y _=>op == (if neg then .neq else .eql) && zR_ x x' && zR_ y y' && he_ P xt
   | _=>false
 | .eqp neg x' y'=>match o with
   | .binOp op xt x y _=>op == (if neg then .neq else .eql) && zR_ x x' && zR_ y y' && Bh_ P xt
   | _=>false
 | .eqn neg x' y'=>match o with
   | .binOp op xt x y _=>op == (if neg then .neq else .eql) && zR_ x x' && zR_ y y' && u0_ P xt
   | _=>false
 | .isnil neg x'=>match o with
   | .binOp op xt x y _=>op == (if neg then .neq else .eql) && zR_ x x' && G9_ y && KF_ P xt
   | _=>false
 | .un op' x'=>match o with | .unOp op _ x=>op == op' && zR_ x x' | _=>false
 | .conv k x'=>match o with
   | .convert src dst x=>zR_ x x' && (P.underlying src).isSome && (match P.underlying dst with | some (.int k')=>k == k' | _=>false)
   | _=>false
 | .pick c' x' y'=>match o with | .pick c x y=>zR_ c c' && zR_ x x' && zR_ y y' | _=>false
 | .len x'=>match o with
   | .call ⟨.builtin .len,args,ts⟩=>Zm_ args.toList [x'] && (match ts[0]? with | some t=>KF_ P t | none=>false)
   | _=>false
 | .slen x'=>match o with
   | .call ⟨.builtin .len,args,ts⟩=>Zm_ args.toList [x'] && (match ts[0]? with | some t=>gK_ P t | none=>false)
   | _=>false
 | .minmax mx x' y'=>match o with
   | .call ⟨.builtin b,args,_⟩=>b == (if mx then .max else .min) && Zm_ args.toList [x',y']
   | _=>false
 | .fieldAddr off a'=>match o with
   | .fieldAddr s a f=>zR_ a a' && (match P.underlying s with
     | some (.struct fs)=>(match fs[f]? with | some d=>d.offset == off && (match P.info? d.type with | some i=>i.size != 0 | none=>false) | none=>false)
     | _=>false)
   | _=>false
 | .indexSl size a' i'=>match o with
   | .indexAddr t a i=>zR_ a a' && zR_ i i' && (match kM_ P t with | some e=>kd_ P e size | none=>false)
   | _=>false
 | .indexArr size n a' i'=>match o with
   | .indexAddr t a i=>zR_ a a' && zR_ i i' && (match P.underlying t with | some (.array k e)=>k == n && kd_ P e size | _=>false)
   | _=>false
 | .sindex x' i'=>match o with
   | .index t x i=>zR_ x x' && zR_ i i' && gK_ P t
   | _=>false
 | .build z ps=>match o with
   | .build t Zc_=>V3_ P t z && (match P.underlying t with
     | some (.struct fs)=>(fs.toList.all fun f=>(P.info? f.type).isSome) && QV_ (fun i=>(fs[i]?).map fun f=>(f.offset,P.cellsOf f.type)) Zc_.toList ps
     | some (.array _ e)=>(P.info? e).isSome && QV_ (fun i=>some (i*P.cellsOf e,P.cellsOf e)) Zc_.toList ps
     | _=>false)
   | _=>false
 | .buildAll tot ps=>match o with
   | .build t Zc_=>(match P.info? t with | some i=>(match i.zero with | some v=>v.cells.size == tot | none=>false) | none=>false) && (match P.underlying t with
     | some (.struct fs)=>(fs.toList.all fun f=>(P.info? f.type).isSome) && QV_ (fun i=>(fs[i]?).map fun f=>(f.offset,P.cellsOf f.type)) Zc_.toList ps
     | some (.array _ e)=>(P.info? e).isSome && QV_ (fun i=>some (i*P.cellsOf e,P.cellsOf e)) Zc_.toList ps
     | _=>false)
   | _=>false
 | .slice size x' lo' hi' mx'=>match o with
   | .slice t x lo hi mx=>zR_ x x' && h6_ lo lo' && h6_ hi hi' && h6_ mx mx' && (match kM_ P t with | some e=>kd_ P e size | none=>false)
   | _=>false
 | .extract x' i'=>match o with | .extract x i=>i == i' && zR_ x x' | _=>false
 | .nilck x'=>match o with | .nilCheck x=>zR_ x x' | _=>false
 | .mkfn f first' cap'=>match o with | .makeFunc fn first cap=>(match fn with | .func g=>g == f | _=>false) && Zm_ first.toList first' && Zm_ cap.toList cap' | _=>false
 | .box z=>match o with
   | .alloc t=>V3_ P t z
   | _=>false
 | .boxv x'=>match o with | .box _ x=>zR_ x x' | _=>false
 | .load n a'=>match o with | .load t a=>nOk P t n && zR_ a a' | _=>false
 | .loadI _ a'=>match o with | .load t a=>nOk P t none && zR_ a a' | _=>false
 | .store n a' x'=>match o with | .store t a x=>kd_ P t n && zR_ a a' && zR_ x x' | _=>false
 | .sliceAll ty n ps=>match o with
   | .buildSlice t k Zc_=>k == n && (match kM_ P t with
     | some e=>kd_ P e ty.size && decide (n*ty.size<=16777216) && decide (n<=16777216) && (match P.info? e with
        | some i=>i.zero.isSome
        | none=>false) && QV_ (fun i=>some (i*P.cellsOf e,P.cellsOf e)) Zc_.toList ps && decide (0 < n*ty.size)
     | none=>false)
   | _=>false
 | .slice0 ty=>match o with
   | .buildSlice t k Zc_=>k == 0 && Zc_.isEmpty && (match kM_ P t with | some e=>kd_ P e ty.size | none=>false)
   | _=>false
 | .mkrow ty bytes z n' c'=>match o with
   | .makeSlice t n c=>zR_ n n' && zR_ c c' && (match kM_ P t with | some e=>kd_ P e ty.size && xb_ P e bytes && GB_ P e ty z | none=>false)
   | _=>false
 | .append ty bytes x' y'=>match o with
   | .call ⟨.builtin .append,args,ts⟩=>Zm_ args.toList [x',y'] && (match ts.toList with
     | [t,u]=>(match kM_ P t with | some e=>kd_ P e ty.size && xb_ P e bytes && decide (0 < bytes) && decide (0 < ty.size) && (match P.info? e with | some i=>(match i.zero with | some v=>v.cells.size == ty.size | none=>false) | none=>false) | none=>false) && KF_ P u
     | _=>false)
   | _=>false
 | .appendJ ty bytes x' y'=>match o with
   | .call ⟨.builtin .append,args,ts⟩=>Zm_ args.toList [x',y'] && (match ts.toList with
     | [t,u]=>(match kM_ P t with | some e=>kd_ P e ty.size && xb_ P e bytes && decide (0 < bytes) && decide (0 < ty.size) && (match P.info? e with | some i=>(match i.zero with | some v=>v.cells.size == ty.size | none=>false) | none=>false) | none=>false) && KF_ P u
     | _=>false)
   | _=>false
 | .copy ty x' y'=>match o with
   | .call ⟨.builtin .copy,args,ts⟩=>Zm_ args.toList [x',y'] && (match ts[0]? with
     | some t=>(match kM_ P t with | some e=>kd_ P e ty.size && decide (0 < ty.size) | none=>false)
     | none=>false)
   | _=>false
 | .b2s x'=>match o with
   | .convert src dst x=>zR_ x x' && gK_ P dst && (match kM_ P src with | some e=>(match P.underlying e with | some (.int .u8)=>true | _=>false) | none=>false)
   | _=>false
 | .mkmap _ _=>match o with
   | .makeMap _ r=>r.isNone
   | _=>false
 | .mlen x'=>match o with
   | .call ⟨.builtin .len,args,ts⟩=>Zm_ args.toList [x'] && (match ts[0]? with | some t=>u0_ P t | none=>false)
   | _=>false
 | .call _ f' args'=>match o with | .call ⟨.value f,args,_⟩=>zR_ f f' && Zm_ args.toList args' | _=>false
 | .callF f' args'=>match o with | .call ⟨.value f,args,_⟩=>zR_ f f' && Zm_ args.toList args' | _=>false
 | .callL f' args'=>match o with | .call ⟨.value f,args,_⟩=>zR_ f f' && Zm_ args.toList args' | _=>false
 | .nilrow _=>match o with | .move x=>G9_ x | .assign x=>G9_ x | _=>false
def qz_:Option Opd->List Opd | none=>[] | some x=>[x]
def IOp.opds:IOp->List Opd
 | .mov x | .un _ x | .conv _ x | .len x | .slen x | .fieldAddr _ x | .extract x _ | .nilck x | .boxv x | .load _ x | .loadI _ x | .b2s x | .mlen x | .isnil _ x=>[x]
 | .bin _ x y | .eqb _ x y | .eqp _ x y | .eqn _ x y | .minmax _ x y | .indexSl _ x y | .indexArr _ _ x y | .sindex x y | .store _ x y | .append _ _ x y | .copy _ x y | .mkrow _ _ _ x y=>[x,y]
 | .pick x y z=>[x,y,z]
 | .build _ ps | .buildAll _ ps | .sliceAll _ _ ps=>ps.map (·.2.2)
 | .slice _ x lo hi mx=>[x]++qz_ lo++qz_ hi++qz_ mx
 | .mkfn _ l c=>l++c
 | .box _ | .slice0 _ | .mkmap _ _ | .nilrow _=>[]
 | .call _ f args=>f :: args
 | .callF f args=>f :: args
 | .appendJ _ _ x y=>[x,y]
 | .callL f args=>f :: args
def FOn (L:List Opd) (fr:zg_) (I:Nat->Prop) (w:World) (m:M) (a:Act):Prop:=∀ i,Opd.t i ∈ L->RV I w m (fr.get i) (a.tmps.getD i undef)
def AV.ids0:AV->List Nat
 | .ptr i _ | .own i | .view i _ _ | .rptr i _ _ | .mapv i | .bview i _ _ _ | .fnp _ i | .jsl i _ _ | .jptr i _ _ _ _=>[i]
 | _=>[]
def zJ_ (l:List AV):List Nat:=l.flatMap AV.ids0
def AV.ids1:AV->List Nat
 | .agg l=>zJ_ l
 | v=>v.ids0
def qZ_ (l:List AV):List Nat:=l.flatMap AV.ids1
def AV.ids:AV->List Nat
 | .fn _ l c=>qZ_ l++qZ_ c
 | .tup l=>qZ_ l
 | v=>v.ids1
def Zj_ (L:List Opd) (fr:zg_):List Nat:=L.flatMap fun x=>(x.ev fr).ids
theorem zs_ {L:List Opd} {fr:zg_} {x:Opd} {v:AV} (hx:x ∈ L) (e:x.ev fr=v):∀ i ∈ v.ids,i ∈ Zj_ L fr:=fun i hi=>by
 unfold Zj_;exact List.mem_flatMap.2 ⟨x,hx,by rw [e];exact hi⟩
theorem Y2_ {v:AV} {c:List AV} (h:v.flat=some c):∀ i ∈ zJ_ c,i ∈ v.ids:=by
 by_cases hf:∃ f l c,v=.fn f l c
 ·obtain ⟨f,l,cp,rfl⟩:=hf
  have h:Y1_ f l cp=some c:=h
  unfold Y1_ at h
  split at h
  ·split at h
   ·split at h
    ·cases h;intro i hi;simpa [zJ_,AV.ids,AV.ids1,AV.ids0,qZ_] using hi
    ·cases h
   ·cases h
  ·cases h
 ·cases v<;>first | exact absurd ⟨_,_,_,rfl⟩ hf | (simp only [AV.flat,Option.some.injEq,reduceCtorEq] at h<;>subst h<;>intro i hi<;>simpa [zJ_,AV.ids,AV.ids1] using hi)
section ops
variable {P:Program} {o:Oper} {I:Nat->Prop} {w:World} {m:M} {a:Act} {fr:zg_} {L:List Opd}
theorem Gd_ {v:Value} {x:AV} (h:yy_ v x=true):RV0 I w m x v:=by
 unfold yy_ at h
 split at h
 ·simp only [Bool.and_eq_true,beq_iff_eq] at h
  obtain ⟨⟨rfl,rfl⟩,h⟩:=h
  exact ⟨rfl,zbP_ h⟩
 ·simp only [beq_iff_eq] at h;subst h;rfl
 ·simp only [beq_iff_eq] at h;subst h;rfl
 ·simp only [Bool.and_eq_true,beq_iff_eq,decide_eq_true_eq] at h
  exact ⟨_,rfl,h.1.symm,h.2⟩
 ·exact ⟨none,0,0,rfl,rfl,Nat.le_refl _,Nat.zero_le _,fun h=>absurd h (by omega)⟩
 ·rfl
 ·rfl
 ·rfl
 ·rfl
 ·cases h
theorem KH_:∀ {r:List Value} {l:List AV},KI_ r l=true->z1_ I w m l r
 | [],[],_=>trivial
 | v :: r,a :: l,h=>by
   simp only [KI_,Bool.and_eq_true] at h
   exact ⟨Gd_ h.1,KH_ h.2⟩
 | [],_ :: _,h=>by cases h
 | _ :: _,[],h=>by cases h
theorem FOn.rv (hf:FOn L fr I w m a) {x:Operand} {y:Opd} (hm:y ∈ L) (h:zR_ x y=true):RV I w m (y.ev fr) (a.eval x):=by
 unfold zR_ at h
 split at h
 ·simp only [beq_iff_eq] at h;subst h;exact hf _ hm
 ·exact RV_0 (Gd_ h)
 ·simp only [beq_iff_eq] at h;subst h;exact ⟨#[],#[],rfl,trivial,trivial⟩
 ·cases h
theorem FOn.mono {L':List Opd} (hf:FOn L fr I w m a) (h:∀ x ∈ L',x ∈ L):FOn L' fr I w m a:=fun i hi=>hf i (h _ hi)
theorem zq_ {k:IntKind} {n:Int} {v:Value} (h:RV I w m (.int k n) v):v=.int k n/\inK k n:=h
theorem zai_ {b:Bool} {v:Value} (h:RV I w m (.bool b) v):v=.bool b:=h
theorem zco_ {b:Bool} {v:Value} (h:RV I w m (.kb b) v):v=.bool b:=h
theorem bA_ {a:AV} {b:Bool} {v:Value} (h:RV I w m a v) (e:a.toB=some b):v=.bool b:=by
 cases a<;>simp only [AV.toB,Option.some.injEq,reduceCtorEq] at e
 ·subst e;exact h
 ·subst e;exact h
theorem Zn_ {k:IntKind} {n:Int} (h:inK k n):RV I w m (.int k n) (.int k n):=⟨rfl,h⟩
theorem ql_ {b:Bool}:RV I w m (.bool b) (.bool b):=rfl
theorem YA_ {b:Bool}:RV I w m (.kb b) (.bool b):=rfl
theorem Qi_ {n:Nat} (h:n<=maxLen):inK .i64 n:=by
 simp only [inK,IntKind.min,IntKind.max,IntKind.signed,IntKind.bits,if_true]
 unfold maxLen at h
 constructor<;>simp<;>omega
theorem Bj_ {k:IntKind} {a b:Int} (ha:inK k a) (hb:b ≠ 0):inK k (a.tmod b):=by
 have h2:a.tmod b<=a.natAbs/\-(a.natAbs:Int)<=a.tmod b:=by
  have:=Int.natAbs_tmod a b
  have h3:=Nat.mod_le a.natAbs b.natAbs
  omega
 have h4:0<=a->0<=a.tmod b:=fun h=>Int.tmod_nonneg b h
 have h5:a<=0->a.tmod b<=0:=fun h=>by
  have:=Int.tmod_nonneg b (show 0<=-a by omega)
  rw [Int.neg_tmod] at this;omega
 cases k<;>simp only [inK,IntKind.min,IntKind.max,IntKind.signed,IntKind.bits] at ha ⊢<;>simp only [if_true,Bool.false_eq_true,if_false,Nat.reduceSub,Int.reducePow] at ha ⊢<;>omega
theorem Bk_ {k:IntKind} {a:Int} {n:Nat} (ha:inK k a):inK k (a.fdiv (2 ^ n)):=by
 have hp:(0:Int) < 2 ^ n:=Int.pow_pos (by omega)
 have e:a.fdiv (2 ^ n)=a / 2 ^ n:=Int.fdiv_eq_ediv_of_nonneg a (Int.le_of_lt hp)
 rw [e]
 have h1:0<=a->0<=a / 2 ^ n/\a / 2 ^ n<=a:=fun h=>⟨Int.ediv_nonneg h (Int.le_of_lt hp),Int.ediv_le_self _ h⟩
 have h2:a < 0->a<=a / 2 ^ n/\a / 2 ^ n < 0:=fun h=>by
  refine ⟨?_,Int.ediv_neg_of_neg_of_pos h hp⟩
  rw [Int.le_ediv_iff_mul_le hp]
  have:a*2 ^ n<=a*1:=Int.mul_le_mul_of_nonpos_left (by omega) (by omega)
  omega
 cases k<;>simp only [inK,IntKind.min,IntKind.max,IntKind.signed,IntKind.bits] at ha ⊢<;>simp only [if_true,Bool.false_eq_true,if_false,Nat.reduceSub,Int.reducePow] at ha ⊢<;>
  rcases Int.lt_or_le a 0 with h | h<;>first | (have:=h2 h;omega) | (have:=h1 h;omega)
theorem Zr_ (s:ByteArray):(zG_ s).length=s.size:=by unfold zG_;rw [List.length_map,Array.length_toList];rfl
theorem hC_ {s t:ByteArray}:zG_ s=zG_ t ↔ s=t:=by
 constructor
 ·intro h
  unfold zG_ at h
  have:s.data.toList=t.data.toList:=by
   refine List.map_inj_right (f:=fun b:UInt8=>(b.toNat:Int)) ?_ |>.1 h
   intro x y hxy
   exact UInt8.toNat_inj.1 (Int.ofNat.inj hxy)
  cases s;cases t;congr 1;exact Array.toList_inj.1 this
 ·intro h;rw [h]
theorem toList_inj {s t:ByteArray}:s.toList=t.toList ↔ s=t:=by
 constructor
 ·intro h;rw [ByteArray.toList_eq,ByteArray.toList_eq] at h
  cases s;cases t;congr 1;exact Array.toList_inj.1 h
 ·intro h;rw [h]
theorem VR_ (s t:ByteArray):(s.toList == t.toList)=decide (zG_ s=zG_ t):=by
 rw [Bool.eq_iff_iff];simp [hC_,toList_inj]
theorem Vk_ (s t:ByteArray):zG_ (s++t)=zG_ s++zG_ t:=by
 unfold zG_;simp
theorem wr_ (p q:Int):(p == q)=decide (p=q):=by rw [Bool.eq_iff_iff];simp
def POK (P:Program) (o:Oper) (L:List Opd) (fr:zg_) (K:AV->Prop):Prop:=
 ∃ v,K v/\∀ {I:Nat->Prop} {w:World} {m:M} {a:Act},FOn L fr I w m a->∃ cv,RV I w m v cv/\(execOp a.eval o).run P w=.ok (.value cv) w
theorem JP_ {S:Sem Value} {cv:Value} {w':World} (he:execOp a.eval o=(do pure (.value (<- S)))) (hr:S.run P w=.ok cv w'):(execOp a.eval o).run P w=.ok (.value cv) w':=by
 rw [he,Sem.run_bind,hr];rfl
theorem Ui_ {S:Sem Unit} {w':World} (he:execOp a.eval o=(do S;pure .skip)) (hr:S.run P w=.ok () w'):(execOp a.eval o).run P w=.ok .skip w':=by
 rw [he,Sem.run_bind,hr];rfl
theorem be_ {op:BinOp} {X Y:AV} {K:AV->Prop} (ev:Qk_ op X Y K):
 ∃ v,K v/\∀ {P:Program} {I:Nat->Prop} {w:World} {m:M} {a:Act} {xt:TypeId} {x y:Operand},RV I w m X (a.eval x)->RV I w m Y (a.eval y)->
   ∃ cv,RV I w m v cv/\(do eqGuard op xt x y (a.eval x) (a.eval y);binOp op xt (a.eval x) (a.eval y)).run P w=.ok cv w:=by
 cases op with
 | add=>
   simp only [Qk_] at ev
   split at ev
   ·rename_i p q
    obtain ⟨h0,hk⟩:=zi_ ev
    refine ⟨_,hk,fun {P I w m a xt x y} hx hy=>?_⟩
    obtain ⟨s1,e1,rfl,h1⟩:=hx
    obtain ⟨s2,e2,rfl,h2⟩:=hy
    rw [Zr_,Zr_] at h0
    refine ⟨.string (s1++s2),⟨_,rfl,(Vk_ s1 s2).symm,?_⟩,?_⟩
    ·rw [ByteArray.size_append];unfold maxLen;omega
    ·have hle:¬ (((s1.size+s2.size:Nat):Int) > IntKind.i64.max):=by
      simp only [IntKind.max,IntKind.signed,IntKind.bits,if_true];simp;omega
     rw [e1,e2]
     show (do eqGuard .add xt x y (.string s1) (.string s2);binOp .add xt (.string s1) (.string s2)).run P w=_
     simp only [binOp,Op.stringOp]
     rw [if_neg hle]
     simp [eqGuard]
   ·obtain ⟨k,p,q,rfl,rfl,ev'⟩:=zL_ ev;replace ev:=ev'
    refine ⟨_,QH_ ev,fun {P I w m a xt x y} hx hy=>⟨_,Zn_ (Z9_ _ _),?_⟩⟩
    simp [(zq_ hx).1,(zq_ hy).1,eqGuard,binOp,Op.intArith]
 | sub=>
   simp only [Qk_] at ev
   obtain ⟨k,p,q,rfl,rfl,ev'⟩:=zL_ ev;replace ev:=ev'
   refine ⟨_,QH_ ev,fun {P I w m a xt x y} hx hy=>⟨_,Zn_ (Z9_ _ _),?_⟩⟩
   simp [(zq_ hx).1,(zq_ hy).1,eqGuard,binOp,Op.intArith]
 | mul=>
   simp only [Qk_] at ev
   obtain ⟨k,p,q,rfl,rfl,ev'⟩:=zL_ ev;replace ev:=ev'
   refine ⟨_,QH_ ev,fun {P I w m a xt x y} hx hy=>⟨_,Zn_ (Z9_ _ _),?_⟩⟩
   simp [(zq_ hx).1,(zq_ hy).1,eqGuard,binOp,Op.intArith]
 | quo=>
   simp only [Qk_] at ev
   obtain ⟨k,p,q,rfl,rfl,ev'⟩:=zL_ ev;replace ev:=ev'
   obtain ⟨h0,ev⟩:=zi_ ev
   refine ⟨_,QH_ ev,fun {P I w m a xt x y} hx hy=>⟨_,Zn_ (Z9_ _ _),?_⟩⟩
   simp [(zq_ hx).1,(zq_ hy).1,eqGuard,binOp,Op.intDiv,h0]
 | rem=>
   simp only [Qk_] at ev
   obtain ⟨k,p,q,rfl,rfl,ev'⟩:=zL_ ev;replace ev:=ev'
   obtain ⟨h0,ev⟩:=zi_ ev
   refine ⟨_,ev,fun {P I w m a xt x y} hx hy=>⟨_,Zn_ (Bj_ (zq_ hx).2 h0),?_⟩⟩
   simp [(zq_ hx).1,(zq_ hy).1,eqGuard,binOp,Op.intDiv,h0]
 | and=>
   simp only [Qk_] at ev
   obtain ⟨k,p,q,rfl,rfl,ev'⟩:=zL_ ev;replace ev:=ev'
   refine ⟨_,ev,fun {P I w m a xt x y} hx hy=>⟨_,Zn_ (Z9_ _ _),?_⟩⟩
   simp [(zq_ hx).1,(zq_ hy).1,eqGuard,binOp,Op.intBits,Ql_]
 | or=>
   simp only [Qk_] at ev
   obtain ⟨k,p,q,rfl,rfl,ev'⟩:=zL_ ev;replace ev:=ev'
   refine ⟨_,ev,fun {P I w m a xt x y} hx hy=>⟨_,Zn_ (Z9_ _ _),?_⟩⟩
   simp [(zq_ hx).1,(zq_ hy).1,eqGuard,binOp,Op.intBits,Ql_]
 | xor=>
   simp only [Qk_] at ev
   obtain ⟨k,p,q,rfl,rfl,ev'⟩:=zL_ ev;replace ev:=ev'
   refine ⟨_,ev,fun {P I w m a xt x y} hx hy=>⟨_,Zn_ (Z9_ _ _),?_⟩⟩
   simp [(zq_ hx).1,(zq_ hy).1,eqGuard,binOp,Op.intBits,Ql_]
 | andNot=>
   simp only [Qk_] at ev
   obtain ⟨k,p,q,rfl,rfl,ev'⟩:=zL_ ev;replace ev:=ev'
   refine ⟨_,ev,fun {P I w m a xt x y} hx hy=>⟨_,Zn_ (Z9_ _ _),?_⟩⟩
   simp [(zq_ hx).1,(zq_ hy).1,eqGuard,binOp,Op.intBits,Ql_]
 | shl=>
   simp only [Qk_] at ev
   split at ev
   ·rename_i k p k' q
    obtain ⟨h0,ev⟩:=zi_ ev
    refine ⟨_,QH_ ev,fun {P I w m a xt x y} hx hy=>⟨_,Zn_ (Z9_ _ _),?_⟩⟩
    simp [(zq_ hx).1,(zq_ hy).1,eqGuard,binOp,Op.shift,show ¬ q < 0 by omega]
   ·exact ev.elim
 | shr=>
   simp only [Qk_] at ev
   split at ev
   ·rename_i k p k' q
    obtain ⟨h0,ev⟩:=zi_ ev
    refine ⟨_,ev,fun {P I w m a xt x y} hx hy=>⟨_,Zn_ (Bk_ (zq_ hx).2),?_⟩⟩
    simp [(zq_ hx).1,(zq_ hy).1,eqGuard,binOp,Op.shift,show ¬ q < 0 by omega]
   ·exact ev.elim
 | eql=>
   simp only [Qk_] at ev
   split at ev
   ·refine ⟨_,ev,fun {P I w m a xt x y} hx hy=>?_⟩
    obtain ⟨s1,e1,rfl,h1⟩:=hx
    obtain ⟨s2,e2,rfl,h2⟩:=hy
    exact ⟨_,ql_,by simp [e1,e2,eqGuard,binOp,Op.stringOp,VR_,bne]⟩
   ·obtain ⟨k,p,q,rfl,rfl,ev'⟩:=zL_ ev;replace ev:=ev'
    refine ⟨_,ev,fun {P I w m a xt x y} hx hy=>⟨_,ql_,?_⟩⟩
    simp [(zq_ hx).1,(zq_ hy).1,eqGuard,binOp,Op.intCmp,wr_]
 | neq=>
   simp only [Qk_] at ev
   split at ev
   ·refine ⟨_,ev,fun {P I w m a xt x y} hx hy=>?_⟩
    obtain ⟨s1,e1,rfl,h1⟩:=hx
    obtain ⟨s2,e2,rfl,h2⟩:=hy
    exact ⟨_,ql_,by simp [e1,e2,eqGuard,binOp,Op.stringOp,VR_,bne]⟩
   ·obtain ⟨k,p,q,rfl,rfl,ev'⟩:=zL_ ev;replace ev:=ev'
    refine ⟨_,ev,fun {P I w m a xt x y} hx hy=>⟨_,ql_,?_⟩⟩
    simp [(zq_ hx).1,(zq_ hy).1,eqGuard,binOp,Op.intCmp,bne,wr_]
 | lss=>
   simp only [Qk_] at ev
   obtain ⟨k,p,q,rfl,rfl,ev'⟩:=zL_ ev;replace ev:=ev'
   refine ⟨_,ev,fun {P I w m a xt x y} hx hy=>⟨_,ql_,?_⟩⟩
   simp [(zq_ hx).1,(zq_ hy).1,eqGuard,binOp,Op.intCmp,wr_]
 | leq=>
   simp only [Qk_] at ev
   obtain ⟨k,p,q,rfl,rfl,ev'⟩:=zL_ ev;replace ev:=ev'
   refine ⟨_,ev,fun {P I w m a xt x y} hx hy=>⟨_,ql_,?_⟩⟩
   simp [(zq_ hx).1,(zq_ hy).1,eqGuard,binOp,Op.intCmp,wr_]
 | gtr=>
   simp only [Qk_] at ev
   obtain ⟨k,p,q,rfl,rfl,ev'⟩:=zL_ ev;replace ev:=ev'
   refine ⟨_,ev,fun {P I w m a xt x y} hx hy=>⟨_,ql_,?_⟩⟩
   simp [(zq_ hx).1,(zq_ hy).1,eqGuard,binOp,Op.intCmp,wr_]
 | geq=>
   simp only [Qk_] at ev
   obtain ⟨k,p,q,rfl,rfl,ev'⟩:=zL_ ev;replace ev:=ev'
   refine ⟨_,ev,fun {P I w m a xt x y} hx hy=>⟨_,ql_,?_⟩⟩
   simp [(zq_ hx).1,(zq_ hy).1,eqGuard,binOp,Op.intCmp,wr_]
theorem qw_ {b:Builtin} {args:Array Operand} {ts:Array TypeId}
 (ho:o.op=.call {callee:=.builtin b,args:=args,argTypes:=ts}):
 execOp a.eval o=builtin b ts o.type (args.map fun | .const _=>true | _=>false) (args.map a.eval):=by
 unfold execOp
 simp only [ho]
 rfl
theorem bm_ {op:UnOp} {X:AV} {K:AV->Prop} (ev:evUn op X K):
 ∃ v,K v/\∀ {P:Program} {I:Nat->Prop} {w:World} {m:M} {x:Value},RV I w m X x->∃ cv,RV I w m v cv/\(Op.unary op x).run P w=.ok cv w:=by
 unfold evUn at ev
 split at ev
 ·exact ⟨_,ev,fun {P I w m x} hx=>⟨_,ql_,by rw [zai_ hx];simp [Op.unary]⟩⟩
 ·rename_i b
  exact ⟨_,ev,fun {P I w m x} hx=>⟨_,YA_,by rw [zco_ hx];cases b<;>simp [Op.unary]⟩⟩
 ·exact ⟨_,QH_ ev,fun {P I w m x} hx=>⟨_,Zn_ (Z9_ _ _),by rw [(zq_ hx).1];simp [Op.unary,Op.intArith]⟩⟩
 ·exact ⟨_,ev,fun {P I w m x} hx=>⟨_,Zn_ (Z9_ _ _),by rw [(zq_ hx).1];simp [Op.unary,Op.intBits,Ql_]⟩⟩
 ·exact ev.elim
theorem Uj_ {d:Nat} {t:TypeId} {p q:Bool} (ht:P.underlying t=some .bool):
 (Op.equalIn (d+1) t (.bool p) (.bool q)).run P w=.ok (p == q) w:=by
 unfold Op.equalIn
 simp only [Sem.run_bind,run_underlying ht,Result.andThen_ok,Sem.run_pure]
theorem JR_ {d:Nat} {t e:TypeId} {x y:Option Addr} (ht:P.underlying t=some (.pointer e)) (h:x=none\/y=none):
 (Op.equalIn (d+1) t (.pointer x) (.pointer y)).run P w=.ok (x.isNone && y.isNone) w:=by
 unfold Op.equalIn
 simp only [Sem.run_bind,run_underlying ht,Result.andThen_ok]
 rcases h with rfl | rfl
 ·simp
 ·cases x<;>simp
theorem XQ_ {d:Nat} {t k e:TypeId} {x y:Option Nat} (ht:P.underlying t=some (.map k e)) (h:x=none\/y=none):
 (Op.equalIn (d+1) t (.map x) (.map y)).run P w=.ok (x.isNone && y.isNone) w:=by
 unfold Op.equalIn
 simp only [Sem.run_bind,run_underlying ht,Result.andThen_ok]
 rcases h with rfl | rfl
 ·simp
 ·cases x<;>simp
theorem Vj_ {d:Nat} {t e:TypeId} {x:Option Addr} {n c:Nat} (ht:P.underlying t=some (.slice e)):
 (Op.equalIn (d+1) t (.slice x n c) (.slice none 0 0)).run P w=.ok x.isNone w:=by
 unfold Op.equalIn
 simp only [Sem.run_bind,run_underlying ht,Result.andThen_ok]
 cases x<;>simp
theorem Wb_ {neg:Bool} {xt:TypeId} {x y:Operand} {u v:Value} {r:Bool}
 (hk:(∃ p q,u=.bool p/\v=.bool q)\/(∃ p q,u=.pointer p/\v=.pointer q)\/(∃ p q,u=.map p/\v=.map q)\/(∃ p n c q n' c',u=.slice p n c/\v=.slice q n' c')) (hr:(Op.equal xt u v).run P w=.ok r w):
 (do eqGuard (if neg then .neq else .eql) xt x y u v;binOp (if neg then .neq else .eql) xt u v).run P w=.ok (.bool (match neg with | true=>!r | false=>r)) w:=by
 cases neg
 ·have e:(do eqGuard .eql xt x y u v;binOp .eql xt u v:Sem Value)=(do let r <- Op.equal xt u v;pure (.bool r)):=by
   rcases hk with ⟨p,q,rfl,rfl⟩ | ⟨p,q,rfl,rfl⟩ | ⟨p,q,rfl,rfl⟩ | ⟨p,n,c,q,n',c',rfl,rfl⟩<;>rfl
  show (do eqGuard .eql xt x y u v;binOp .eql xt u v:Sem Value).run P w=_
  rw [e,Sem.run_bind,hr];rfl
 ·have e:(do eqGuard .neq xt x y u v;binOp .neq xt u v:Sem Value)=(do let r <- Op.equal xt u v;pure (.bool (!r))):=by
   rcases hk with ⟨p,q,rfl,rfl⟩ | ⟨p,q,rfl,rfl⟩ | ⟨p,q,rfl,rfl⟩ | ⟨p,n,c,q,n',c',rfl,rfl⟩<;>rfl
  show (do eqGuard .neq xt x y u v;binOp .neq xt u v:Sem Value).run P w=_
  rw [e,Sem.run_bind,hr];rfl
theorem H5_ {neg:Bool} {X Y:AV} {K:AV->Prop} (ev:eqpK neg X Y K):
 ∃ v,K v/\∀ {P:Program} {I:Nat->Prop} {w:World} {m:M} {a:Act} {xt e:TypeId} {x y:Operand},P.underlying xt=some (.pointer e)->RV I w m X (a.eval x)->RV I w m Y (a.eval y)->
   ∃ cv,RV I w m v cv/\(do eqGuard (if neg then .neq else .eql) xt x y (a.eval x) (a.eval y);binOp (if neg then .neq else .eql) xt (a.eval x) (a.eval y)).run P w=.ok cv w:=by
 unfold eqpK at ev
 split at ev
 ·refine ⟨_,ev,fun {P I w m a xt e x y} ht hx hy=>⟨.bool (!neg),YA_,?_⟩⟩
  have h1:a.eval x=.pointer none:=hx
  have h2:a.eval y=.pointer none:=hy
  rw [Wb_ (r:=true) (.inr (.inl ⟨_,_,h1,h2⟩)) (by rw [h1,h2];exact JR_ (d:=9999) ht (.inl rfl))]
  cases neg<;>rfl
 ·refine ⟨_,ev,fun {P I w m a xt e x y} ht hx hy=>⟨.bool neg,YA_,?_⟩⟩
  obtain ⟨b,_,h1,_⟩:=hx
  have h2:a.eval y=.pointer none:=hy
  rw [Wb_ (r:=false) (.inr (.inl ⟨_,_,h1,h2⟩)) (by rw [h1,h2];exact JR_ (d:=9999) ht (.inr rfl))]
  cases neg<;>rfl
 ·refine ⟨_,ev,fun {P I w m a xt e x y} ht hx hy=>⟨.bool neg,YA_,?_⟩⟩
  obtain ⟨b,_,h2,_⟩:=hy
  have h1:a.eval x=.pointer none:=hx
  rw [Wb_ (r:=false) (.inr (.inl ⟨_,_,h1,h2⟩)) (by rw [h1,h2];exact JR_ (d:=9999) ht (.inl rfl))]
  cases neg<;>rfl
 ·exact ev.elim
theorem xB_ {t:TypeId} {d:TypeDesc} (h:P.underlying t=some d) (w:World):(isAgg t).run P w=.ok (aggB d) w:=by
 unfold isAgg
 rw [Sem.run_bind,run_underlying h]
 cases d<;>rfl
theorem z5_ {t:TypeId} {i:TypeInfo} (h:P.info? t=some i) (w:World):(sizeOf t).run P w=.ok i.size w:=by
 unfold sizeOf typeInfo
 simp [h]
theorem xY_ {t:TypeId} {n:Option Nat} (h:nOk P t n=true):
 ∃ d i,P.underlying t=some d/\P.info? t=some i/\((aggB d=true/\n=some i.size)\/(aggB d=false/\n=none/\i.size=1)):=by
 unfold nOk at h
 split at h
 ·rename_i d i hd hi
  refine ⟨d,i,hd,hi,?_⟩
  split at h
  ·rename_i hb;exact .inl ⟨hb,by simpa using h⟩
  ·rename_i hb;simp only [Bool.and_eq_true,beq_iff_eq] at h;exact .inr ⟨hb,h.1,h.2⟩
 ·cases h
theorem Ks_ {t:TypeId} {i:TypeInfo} {v:Value} (h:P.info? t=some i) (hz:i.zero=some v):(zeroValue t).run P w=.ok v w:=by
 simp [zeroValue,typeInfo,h,hz]
theorem Vn_ {t:TypeId} {z:List AV} (h:V3_ P t z=true):∃ i v,P.info? t=some i/\i.zero=some v/\KI_ v.cells.toList z=true:=by
 unfold V3_ at h
 split at h
 ·rename_i i hi
  split at h
  ·rename_i v hv;exact ⟨i,v,hi,hv,h⟩
  ·cases h
 ·cases h
end ops
end Go.Eng
namespace Go.Eng
set_option linter.unusedVariables false
set_option linter.unusedSimpArgs false
set_option maxRecDepth 10000
open Go.RowKit
def zcS_:Leaf->Value->Prop
 | .int k,v=>∃ n,v=.int k n/\inK k n
 | .bool,v=>∃ b,v=.bool b
 | .str,v=>∃ s:ByteArray,v=.string s/\s.size<=maxLen
def Vl_:List Leaf->List Value->Prop
 | [],[]=>True
 | k :: ks,v :: vs=>zcS_ k v/\Vl_ ks vs
 | _,_=>False
theorem Vl_.length:∀ {ks:List Leaf} {vs:List Value},Vl_ ks vs->vs.length=ks.length
 | [],[],_=>rfl
 | k :: ks,v :: vs,h=>by simp [Vl_.length h.2]
 | [],_ :: _,h=>h.elim
 | _ :: _,[],h=>h.elim
theorem Vl_.split:∀ {ks ks':List Leaf} {vs:List Value},Vl_ (ks++ks') vs->Vl_ ks (vs.take ks.length)/\Vl_ ks' (vs.drop ks.length)
 | [],ks',vs,h=>by simpa [Vl_] using h
 | k :: ks,ks',v :: vs,h=>by
   have:=Vl_.split (ks:=ks) (ks':=ks') h.2
   exact ⟨⟨h.1,this.1⟩,this.2⟩
 | k :: ks,ks',[],h=>h.elim
end Go.Eng
