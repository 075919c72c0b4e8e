/- Parts of the proof: EEqs. No condition. -/
import Derived.Test.YtimkdohmkfjfaaaGreatDoorXJ01
import Derived.ChangeKeysEq
import Derived.DeepKeys
import Derived.Laws.StructEq
namespace Go.Eng
set_option linter.unusedVariables false
set_option linter.unusedSimpArgs false
open Go.RowKit
def inKB (k:IntKind) (n:Int):Bool:=decide (k.min<=n) && decide (n<=k.max)
theorem zdR_ {k:IntKind} {n:Int} (h:inKB k n=true):inK k n:=by
 simp only [inKB,Bool.and_eq_true,decide_eq_true_eq] at h;exact h
theorem qf_ (k:IntKind) (n:Int):inK k (k.wrap n):=by
 cases k<;>simp [inK,IntKind.wrap,IntKind.min,IntKind.max,IntKind.signed,IntKind.bits]<;>(try split)<;>omega
theorem yS_ {k:IntKind} {n:Int} (h:inK k n):k.wrap n=n:=by
 cases k<;>simp [inK,IntKind.wrap,IntKind.min,IntKind.max,IntKind.signed,IntKind.bits] at h ⊢<;>(try split)<;>omega
theorem Q3_ {k:IntKind} {n:Int} {K:Int->Prop} (h:ari k n K):K (k.wrap n):=by
 refine h _ ⟨fun h1 h2=>?_,fun h=>h⟩
 rw [yS_ h1];exact h2
theorem zP_ {x y:AV} {K:IntKind->Int->Int->Prop} (h:QS_ x y K):∃ k a b,x=.int k a/\y=.int k b/\K k a b:=by
 unfold QS_ at h
 split at h
 ·split at h
  ·rename_i hk _;subst hk;exact ⟨_,_,_,rfl,rfl,h⟩
  ·exact h.elim
 ·exact h.elim
theorem Zi_ {t' t:Ty} {x:List t'.den} {K:List t.den->Prop} (h:Kv_ t' t x K):∃ e:t'=t,K (e ▸ x):=by
 exact h _ ⟨fun e k=>⟨e,k⟩⟩
theorem zbr_ {t:Ty} {x:List t.den} {K:List t.den->Prop} (h:K x):Kv_ t t x K:=fun _ k=>zb_ k h
theorem bw_:∀ {t:Ty} {l:List AV} {K:t.den->List AV->Prop},t.ofK l K ↔ ∃ x r,t.ofCells l=some (x,r)/\K x r:=fun {t}=>by
 induction t with
 | cons a b iha ihb=>
   intro l K
   unfold Ty.ofK Ty.ofCells
   rw [iha]
   constructor
   ·rintro ⟨x,r,h1,h2⟩
    obtain ⟨y,r',h3,h4⟩:=ihb.1 h2
    exact ⟨(x,y),r',by simp only [h1,h3],h4⟩
   ·rintro ⟨x,r,h1,h2⟩
    split at h1
    ·rename_i x' r' e1
     split at h1
     ·rename_i y' r2 e2
      cases h1
      exact ⟨x',r',e1,ihb.2 ⟨y',r,e2,h2⟩⟩
     ·cases h1
    ·cases h1
 | int k=>
   intro l K
   cases l with
   | nil=>exact ⟨fun h=>False.elim h,fun ⟨_,_,e,_⟩=>by cases e⟩
   | cons v r=>
     cases v with
     | int k' n=>
       unfold Ty.ofK Ty.ofCells
       cases decEq k k' with
       | isTrue=>exact ⟨fun h=>⟨n,r,rfl,h⟩,fun ⟨x,r,e,h⟩=>by cases e;exact h⟩
       | isFalse=>exact ⟨fun h=>False.elim h,fun ⟨_,_,e,_⟩=>by cases e⟩
     | _=>exact ⟨fun h=>False.elim h,fun ⟨_,_,e,_⟩=>by cases e⟩
 | bool=>
   intro l K
   cases l with
   | nil=>exact ⟨fun h=>False.elim h,fun ⟨_,_,e,_⟩=>by cases e⟩
   | cons v r=>
     cases v with
     | bool b=>exact ⟨fun h=>⟨b,r,rfl,h⟩,fun ⟨x,r,e,h⟩=>by cases e;exact h⟩
     | kb b=>exact ⟨fun h=>⟨b,r,rfl,h⟩,fun ⟨x,r,e,h⟩=>by cases e;exact h⟩
     | _=>exact ⟨fun h=>False.elim h,fun ⟨_,_,e,_⟩=>by cases e⟩
 | str=>
   intro l K
   cases l with
   | nil=>exact ⟨fun h=>False.elim h,fun ⟨_,_,e,_⟩=>by cases e⟩
   | cons v r=>
     cases v with
     | str b=>exact ⟨fun h=>⟨b,r,rfl,h⟩,fun ⟨x,r,e,h⟩=>by cases e;exact h⟩
     | _=>exact ⟨fun h=>False.elim h,fun ⟨_,_,e,_⟩=>by cases e⟩
 | nil=>intro l K;unfold Ty.ofK Ty.ofCells;exact ⟨fun h=>⟨(),l,rfl,h⟩,fun ⟨x,r,e,h⟩=>by cases e;exact h⟩
 | sl t _=>
   intro l K
   cases l with
   | nil=>exact ⟨fun h=>False.elim h,fun ⟨_,_,e,_⟩=>by cases e⟩
   | cons v r=>
     cases v with
     | nils=>exact ⟨fun h=>⟨[],r,rfl,h⟩,fun ⟨x,r,e,h⟩=>by cases e;exact h⟩
     | imm t' x=>
       unfold Ty.ofK Ty.ofCells
       constructor
       ·intro h
        obtain ⟨rfl,h⟩:=Zi_ h
        exact ⟨x,r,by split<;>first | rfl | (rename_i hd _;exact absurd rfl hd),h⟩
       ·rintro ⟨y,r',e,h⟩
        split at e
        ·rename_i hd _
         subst hd
         cases e
         exact zbr_ h
        ·cases e
     | _=>exact ⟨fun h=>False.elim h,fun ⟨_,_,e,_⟩=>by cases e⟩
theorem jt_ {t:Ty} {l:List AV} {K:t.den->Prop} (h:t.oneQ l K):∃ x,t.one l=some x/\K x:=by
 unfold Ty.oneQ at h
 obtain ⟨x,r,h1,h2⟩:=bw_.1 h
 cases r with
 | nil=>exact ⟨x,by unfold Ty.one;rw [h1],h2⟩
 | cons=>exact h2.elim
theorem Kh_ {t:Ty}:∀ {n:Nat} {l:List AV} {K:List t.den->Prop},t.allK n l K ↔ ∃ x,t.all n l=some x/\K x
 | 0,[],K=>by simp [Ty.allK,Ty.all]
 | 0,_ :: _,K=>by simp [Ty.allK,Ty.all]
 | n+1,l,K=>by
   unfold Ty.allK Ty.all
   rw [bw_]
   constructor
   ·rintro ⟨x,r,h1,h2⟩
    obtain ⟨y,h3,h4⟩:=Kh_.1 h2
    exact ⟨x :: y,by simp only [h1,h3],h4⟩
   ·rintro ⟨x,h1,h2⟩
    split at h1
    ·rename_i x' r' e1
     split at h1
     ·rename_i y' e2
      cases h1
      exact ⟨x',r',e1,Kh_.2 ⟨y',e2,h2⟩⟩
     ·cases h1
    ·cases h1
def y3_:Value->AV->Bool
 | .int k n,.int k' n'=>k == k' && n == n' && inKB k n
 | .bool b,.kb b'=>b == b'
 | .bool b,.bool b'=>b == b'
 | .string s,.str l=>zK_ s == l && decide (s.size<=maxLen)
 | .slice none 0 0,.imm _ []=>true
 | .slice none 0 0,.nils=>true
 | .pointer none,.nilp=>true
 | .map none,.nilm=>true
 | .nilFunc,.undef=>true
 | _,_=>false
def zI_:Operand->Opd->Bool
 | .tmp i,.t j=>i == j
 | .const v,.c a=>y3_ v a
 | .func f,.f i=>f == i
 | _,_=>false
def Zj_:List Operand->List Opd->Bool
 | [],[]=>true
 | x :: r,y :: l=>zI_ x y && Zj_ r l
 | _,_=>false
def bt_:Option Operand->Option Opd->Bool
 | none,none=>true
 | some x,some y=>zI_ x y
 | _,_=>false
def kz_ (P:Program) (t:TypeId) (n:Nat):Bool:=match P.info? t with | some i=>i.size == n | none=>false
def xF_ (P:Program) (t:TypeId) (n:Nat):Bool:=match P.info? t with | some i=>i.bytes == n | none=>false
theorem qh_ {P:Program} {t:TypeId} {n:Nat} (h:kz_ P t n=true):∃ i,P.info? t=some i/\i.size=n:=by
 unfold kz_ at h;split at h
 ·rename_i i hi;exact ⟨i,hi,by simpa using h⟩
 ·cases h
theorem WL_ {P:Program} {t:TypeId} {n:Nat} (h:xF_ P t n=true):∃ i,P.info? t=some i/\i.bytes=n:=by
 unfold xF_ at h;split at h
 ·rename_i i hi;exact ⟨i,hi,by simpa using h⟩
 ·cases h
def aggB:TypeDesc->Bool | .struct _=>true | .array _ _=>true | _=>false
def nOk (P:Program) (t:TypeId) (n:Option Nat):Bool:=
 match P.underlying t,P.info? t with
 | some d,some i=>match aggB d with | true=>n == some i.size | false=>n == none && i.size == 1
 | _,_=>false
def kd_ (place:Nat->Option (Nat × Nat)):List (Nat × Operand)->List (Nat × Nat × Opd)->Bool
 | [],[]=>true
 | (i,x) :: r,(off,size,y) :: l=>(match place i with | some (o,n)=>o == off && n == size | none=>false) && zI_ x y && kd_ place r l
 | _,_=>false
def K6_:List Value->List AV->Bool
 | [],[]=>true
 | v :: r,a :: l=>y3_ v a && K6_ r l
 | _,_=>false
def u7_ (P:Program) (t:TypeId) (z:List AV):Bool:=
 match P.info? t with | some i=>(match i.zero with | some v=>K6_ v.cells.toList z | none=>false) | none=>false
def xT_ (P:Program) (t:TypeId) (ty:Ty) (z:ty.den):Bool:=
 match P.info? t with
 | some i=>(match i.zero with
   | some v=>(match ty.one (ty.cells z) with | some _=>true | none=>false) && K6_ v.cells.toList (ty.cells z)
   | none=>false)
 | none=>false
def yR_ (P:Program) (t:TypeId) (ty:Ty):Bool:=match P.info? t with
 | some i=>(match i.zero with
   | some v=>(match v with | .agg _=>true | _=>false) == BP_ ty
   | none=>false)
 | none=>false
def Hz_ (P:Program) (t:TypeId):Bool:=match P.underlying t with | some .bool=>true | _=>false
def zaX_ (P:Program) (t:TypeId):Bool:=match P.underlying t with | some (.pointer _)=>true | _=>false
def gc_ (P:Program) (t:TypeId):Bool:=match P.underlying t with | some (.map _ _)=>true | _=>false
def K1_ (P:Program) (t:TypeId):Bool:=match P.underlying t with | some (.slice _)=>true | _=>false
def G1_ (P:Program) (t:TypeId):Bool:=match P.underlying t with | some .string=>true | _=>false
def k8_ (P:Program) (t:TypeId):Option TypeId:=match P.underlying t with | some (.slice e)=>some e | _=>none
theorem qJ_ {P:Program} {t e:TypeId} (h:k8_ P t=some e):P.underlying t=some (.slice e):=by
 unfold k8_ at h;split at h
 ·cases h;assumption
 ·cases h
theorem Bv_ {P:Program} {t:TypeId} (h:Hz_ P t=true):P.underlying t=some .bool:=by unfold Hz_ at h;split at h<;>first | assumption | cases h
theorem vf_ {P:Program} {t:TypeId} (h:G1_ P t=true):P.underlying t=some .string:=by unfold G1_ at h;split at h<;>first | assumption | cases h
theorem zaW_ {P:Program} {t:TypeId} (h:zaX_ P t=true):∃ e,P.underlying t=some (.pointer e):=by unfold zaX_ at h;split at h<;>first | exact ⟨_,by assumption⟩ | cases h
theorem G2_ {P:Program} {t:TypeId} (h:gc_ P t=true):∃ k e,P.underlying t=some (.map k e):=by unfold gc_ at h;split at h<;>first | exact ⟨_,_,by assumption⟩ | cases h
theorem jD_ {P:Program} {t:TypeId} (h:K1_ P t=true):∃ e,P.underlying t=some (.slice e):=by unfold K1_ at h;split at h<;>first | exact ⟨_,by assumption⟩ | cases h
def Hu_:Operand->Bool
 | .const (.slice none 0 0)=>true
 | _=>false
def jB_ (cells:TypeId->Nat) (rec:TypeId->Option (List Leaf)):List Field->Nat->Option (List Leaf)
 | [],_=>some []
 | f :: r, off => if f.offset = off /\ f.name ≠ "_" then (rec f.type).bind fun ks => if ks.length = cells f.type then (jB_ cells rec r (off + ks.length)).map (ks ++ ·) else none else none
def qK_ (P:Program):Nat->TypeId->Option (List Leaf)
 | 0,_=>none
 | d+1,t=>match P.underlying t with
   | some .bool=>some [.bool]
   | some (.int k)=>some [.int k]
   | some .string=>some [.str]
   | some (.array n e)=>(qK_ P d e).bind fun ks=>if ks.length=P.cellsOf e/\P.cellsOf t=n*ks.length then some (List.replicate n ks).flatten else none
   | some (.struct fs)=>(jB_ P.cellsOf (qK_ P d) fs.toList 0).bind fun ks=>if ks.length=P.cellsOf t then some ks else none
   | _=>none
def gb_ (P:Program) (t:TypeId):Bool:=match P.underlying t with | some (.array _ _) | some (.struct _)=>true | _=>false
def Qz_:Ty->Option (List Leaf)
 | .int k=>some [.int k]
 | .bool=>some [.bool]
 | .nil=>some []
 | .cons a b=>match Qz_ a,Qz_ b with | some x,some y=>some (x++y) | _,_=>none
 | _=>none
def bG_ (P:Program) (t:TypeId) (ty:Ty):Bool:=match ty with
 | .int k=>(match P.underlying t with | some (.int k')=>k == k' | _=>false)
 | .cons a b=>gb_ P t && P.keyTypeAt 8 t && (match Qz_ (.cons a b),qK_ P 8 t with | some x,some y=>decide (x=y) | _,_=>false)
 | _=>false
def zD_ (P:Program) (o:Op) (io:IOp):Bool:=
 match io with
 | .mov y=>match o with | .move x=>zI_ x y | .assign x=>zI_ x y | _=>false
 | .bin op' x' y'=>match o with | .binOp op _ x y _=>op == op' && zI_ x x' && zI_ y y' | _=>false
 | .eqb neg x' y'=>match o with
   | .binOp op xt x y _=>op == (if neg then .neq else .eql) && zI_ x x' && zI_ y y' && Hz_ P xt
   | _=>false
 | .eqp neg x' y'=>match o with
   | .binOp op xt x y _=>op == (if neg then .neq else .eql) && zI_ x x' && zI_ y y' && zaX_ P xt
   | _=>false
 | .eqn neg x' y'=>match o with
   | .binOp op xt x y _=>op == (if neg then .neq else .eql) && zI_ x x' && zI_ y y' && gc_ P xt
   | _=>false
 | .isnil neg x'=>match o with
   | .binOp op xt x y _=>op == (if neg then .neq else .eql) && zI_ x x' && Hu_ y && K1_ P xt
   | _=>false
 | .un op' x'=>match o with | .unOp op _ x=>op == op' && zI_ x x' | _=>false
 | .conv k x'=>match o with
   | .convert src dst x=>zI_ x x' && (P.underlying src).isSome && (match P.underlying dst with | some (.int k')=>k == k' | _=>false)
   | _=>false
 | .pick c' x' y'=>match o with | .pick c x y=>zI_ c c' && zI_ x x' && zI_ y y' | _=>false
 | .len x'=>match o with
   | .call ⟨.builtin .len,args,ts⟩=>Zj_ args.toList [x'] && (match ts[0]? with | some t=>K1_ P t | none=>false)
   | _=>false
 | .slen x'=>match o with
   | .call ⟨.builtin .len,args,ts⟩=>Zj_ args.toList [x'] && (match ts[0]? with | some t=>G1_ P t | none=>false)
   | _=>false
 | .minmax mx x' y'=>match o with
   | .call ⟨.builtin b,args,_⟩=>b == (if mx then .max else .min) && Zj_ args.toList [x',y']
   | _=>false
 | .fieldAddr off a'=>match o with
   | .fieldAddr s a f=>zI_ a a' && (match P.underlying s with
     | some (.struct fs)=>(match fs[f]? with | some d=>d.offset == off && (match P.info? d.type with | some i=>i.size != 0 | none=>false) | none=>false)
     | _=>false)
   | _=>false
 | .indexSl size a' i'=>match o with
   | .indexAddr t a i=>zI_ a a' && zI_ i i' && (match k8_ P t with | some e=>kz_ P e size | none=>false)
   | _=>false
 | .indexArr size n a' i'=>match o with
   | .indexAddr t a i=>zI_ a a' && zI_ i i' && (match P.underlying t with | some (.array k e)=>k == n && kz_ P e size | _=>false)
   | _=>false
 | .sindex x' i'=>match o with
   | .index t x i=>zI_ x x' && zI_ i i' && G1_ P t
   | _=>false
 | .build z ps=>match o with
   | .build t Zc_=>u7_ P t z && (match P.underlying t with
     | some (.struct fs)=>(fs.toList.all fun f=>(P.info? f.type).isSome) && kd_ (fun i=>(fs[i]?).map fun f=>(f.offset,P.cellsOf f.type)) Zc_.toList ps
     | some (.array _ e)=>(P.info? e).isSome && kd_ (fun i=>some (i*P.cellsOf e,P.cellsOf e)) Zc_.toList ps
     | _=>false)
   | _=>false
 | .buildAll tot ps=>match o with
   | .build t Zc_=>(match P.info? t with | some i=>(match i.zero with | some v=>v.cells.size == tot | none=>false) | none=>false) && (match P.underlying t with
     | some (.struct fs)=>(fs.toList.all fun f=>(P.info? f.type).isSome) && kd_ (fun i=>(fs[i]?).map fun f=>(f.offset,P.cellsOf f.type)) Zc_.toList ps
     | some (.array _ e)=>(P.info? e).isSome && kd_ (fun i=>some (i*P.cellsOf e,P.cellsOf e)) Zc_.toList ps
     | _=>false)
   | _=>false
 | .slice size x' lo' hi' mx'=>match o with
   | .slice t x lo hi mx=>zI_ x x' && bt_ lo lo' && bt_ hi hi' && bt_ mx mx' && (match k8_ P t with | some e=>kz_ P e size | none=>false)
   | _=>false
 | .extract x' i'=>match o with | .extract x i=>i == i' && zI_ x x' | _=>false
 | .nilck x'=>match o with | .nilCheck x=>zI_ x x' | _=>false
 | .mkfn f first' cap'=>match o with | .makeFunc fn first cap=>(match fn with | .func g=>g == f | _=>false) && Zj_ first.toList first' && Zj_ cap.toList cap' | _=>false
 | .box z=>match o with
   | .alloc t=>u7_ P t z
   | _=>false
 | .boxv x'=>match o with | .box _ x=>zI_ x x' | _=>false
 | .load n a'=>match o with | .load t a=>nOk P t n && zI_ a a' | _=>false
 | .loadI _ a'=>match o with | .load t a=>nOk P t none && zI_ a a' | _=>false
 | .store n a' x'=>match o with | .store t a x=>kz_ P t n && zI_ a a' && zI_ x x' | _=>false
 | .sliceAll ty n ps=>match o with
   | .buildSlice t k Zc_=>k == n && (match k8_ P t with
     | some e=>kz_ P e ty.size && decide (n*ty.size<=16777216) && decide (n<=16777216) && (match P.info? e with
        | some i=>i.zero.isSome
        | none=>false) && kd_ (fun i=>some (i*P.cellsOf e,P.cellsOf e)) Zc_.toList ps && decide (0 < n*ty.size)
     | none=>false)
   | _=>false
 | .slice0 ty=>match o with
   | .buildSlice t k Zc_=>k == 0 && Zc_.isEmpty && (match k8_ P t with | some e=>kz_ P e ty.size | none=>false)
   | _=>false
 | .mkrow ty bytes z n' c'=>match o with
   | .makeSlice t n c=>zI_ n n' && zI_ c c' && (match k8_ P t with | some e=>kz_ P e ty.size && xF_ P e bytes && xT_ P e ty z | none=>false)
   | _=>false
 | .append ty bytes x' y'=>match o with
   | .call ⟨.builtin .append,args,ts⟩=>Zj_ args.toList [x',y'] && (match ts.toList with
     | [t,u]=>(match k8_ P t with | some e=>kz_ P e ty.size && xF_ P e bytes && decide (0 < bytes) && decide (0 < ty.size) && (match P.info? e with | some i=>(match i.zero with | some v=>v.cells.size == ty.size | none=>false) | none=>false) | none=>false) && K1_ P u
     | _=>false)
   | _=>false
 | .appendJ ty bytes x' y'=>match o with
   | .call ⟨.builtin .append,args,ts⟩=>Zj_ args.toList [x',y'] && (match ts.toList with
     | [t,u]=>(match k8_ P t with | some e=>kz_ P e ty.size && xF_ P e bytes && decide (0 < bytes) && decide (0 < ty.size) && (match P.info? e with | some i=>(match i.zero with | some v=>v.cells.size == ty.size | none=>false) | none=>false) | none=>false) && K1_ P u
     | _=>false)
   | _=>false
 | .copy ty x' y'=>match o with
   | .call ⟨.builtin .copy,args,ts⟩=>Zj_ args.toList [x',y'] && (match ts[0]? with
     | some t=>(match k8_ P t with | some e=>kz_ P e ty.size && decide (0 < ty.size) | none=>false)
     | none=>false)
   | _=>false
 | .b2s x'=>match o with
   | .convert src dst x=>zI_ x x' && G1_ P dst && (match k8_ P src with | some e=>(match P.underlying e with | some (.int .u8)=>true | _=>false) | none=>false)
   | _=>false
 | .mkmap _ _=>match o with
   | .makeMap _ r=>r.isNone
   | _=>false
 | .mlen x'=>match o with
   | .call ⟨.builtin .len,args,ts⟩=>Zj_ args.toList [x'] && (match ts[0]? with | some t=>gc_ P t | none=>false)
   | _=>false
 | .mget kt vt z ok' x' k'=>match o with
   | .lookup t x k ok=>ok == ok' && zI_ x x' && zI_ k k' && (match P.underlying t with | some (.map a b)=>bG_ P a kt && xT_ P b vt z && yR_ P b vt | _=>false)
   | _=>false
 | .mput kt _ x' k' v'=>match o with
   | .mapUpdate t x k v=>zI_ x x' && zI_ k k' && zI_ v v' && (match P.underlying t with | some (.map a _)=>bG_ P a kt | _=>false)
   | _=>false
 | .call _ f' args'=>match o with | .call ⟨.value f,args,_⟩=>zI_ f f' && Zj_ args.toList args' | _=>false
 | .callF f' args'=>match o with | .call ⟨.value f,args,_⟩=>zI_ f f' && Zj_ args.toList args' | _=>false
 | .callL f' args'=>match o with | .call ⟨.value f,args,_⟩=>zI_ f f' && Zj_ args.toList args' | _=>false
 | .nilrow _=>match o with | .move x=>Hu_ x | .assign x=>Hu_ x | _=>false
def qu_:Option Opd->List Opd | none=>[] | some x=>[x]
def IOp.opds:IOp->List Opd
 | .mov x | .un _ x | .conv _ x | .len x | .slen x | .fieldAddr _ x | .extract x _ | .nilck x | .boxv x | .load _ x | .loadI _ x | .b2s x | .mlen x | .isnil _ x=>[x]
 | .bin _ x y | .eqb _ x y | .eqp _ x y | .eqn _ x y | .minmax _ x y | .indexSl _ x y | .indexArr _ _ x y | .sindex x y | .store _ x y | .append _ _ x y | .copy _ x y | .mkrow _ _ _ x y | .mget _ _ _ _ x y=>[x,y]
 | .pick x y z | .mput _ _ x y z=>[x,y,z]
 | .build _ ps | .buildAll _ ps | .sliceAll _ _ ps=>ps.map (·.2.2)
 | .slice _ x lo hi mx=>[x]++qu_ lo++qu_ hi++qu_ mx
 | .mkfn _ l c=>l++c
 | .box _ | .slice0 _ | .mkmap _ _ | .nilrow _=>[]
 | .call _ f args=>f :: args
 | .callF f args=>f :: args
 | .appendJ _ _ x y=>[x,y]
 | .callL f args=>f :: args
def FOn (L:List Opd) (fr:zg_) (I:Nat->Prop) (w:World) (m:M) (a:Act):Prop:=∀ i,Opd.t i ∈ L->RV I w m (fr.get i) (a.tmps.getD i undef)
def AV.ids0:AV->List Nat
 | .ptr i _ | .own i | .view i _ _ | .rptr i _ _ | .mapv i | .bview i _ _ _ | .fnp _ i | .jsl i _ _ | .jptr i _ _ _ _=>[i]
 | _=>[]
def zO_ (l:List AV):List Nat:=l.flatMap AV.ids0
def AV.ids1:AV->List Nat
 | .agg l=>zO_ l
 | v=>v.ids0
def q5_ (l:List AV):List Nat:=l.flatMap AV.ids1
def AV.ids:AV->List Nat
 | .fn _ l c=>q5_ l++q5_ c
 | .tup l=>q5_ l
 | v=>v.ids1
def z0_ (L:List Opd) (fr:zg_):List Nat:=L.flatMap fun x=>(x.ev fr).ids
theorem zr_ {L:List Opd} {fr:zg_} {x:Opd} {v:AV} (hx:x ∈ L) (e:x.ev fr=v):∀ i ∈ v.ids,i ∈ z0_ L fr:=fun i hi=>by
 unfold z0_;exact List.mem_flatMap.2 ⟨x,hx,by rw [e];exact hi⟩
theorem vI_ {v:AV} {c:List AV} (h:v.flat=some c):∀ i ∈ zO_ c,i ∈ v.ids:=by
 by_cases hf:∃ f l c,v=.fn f l c
 ·obtain ⟨f,l,cp,rfl⟩:=hf
  have h:vH_ f l cp=some c:=h
  unfold vH_ at h
  split at h
  ·split at h
   ·split at h
    ·cases h;intro i hi;simpa [zO_,AV.ids,AV.ids1,AV.ids0,q5_] using hi
    ·cases h
   ·cases h
  ·cases h
 ·cases v<;>first | exact absurd ⟨_,_,_,rfl⟩ hf | (simp only [AV.flat,Option.some.injEq,reduceCtorEq] at h<;>subst h<;>intro i hi<;>simpa [zO_,AV.ids,AV.ids1] using hi)
section ops
variable {P:Program} {o:Oper} {I:Nat->Prop} {w:World} {m:M} {a:Act} {fr:zg_} {L:List Opd}
theorem hz_ {v:Value} {x:AV} (h:y3_ v x=true):RV0 I w m x v:=by
 unfold y3_ at h
 split at h
 ·simp only [Bool.and_eq_true,beq_iff_eq] at h
  obtain ⟨⟨rfl,rfl⟩,h⟩:=h
  exact ⟨rfl,zdR_ h⟩
 ·simp only [beq_iff_eq] at h;subst h;rfl
 ·simp only [beq_iff_eq] at h;subst h;rfl
 ·simp only [Bool.and_eq_true,beq_iff_eq,decide_eq_true_eq] at h
  exact ⟨_,rfl,h.1.symm,h.2⟩
 ·exact ⟨none,0,0,rfl,rfl,Nat.le_refl _,Nat.zero_le _,fun h=>absurd h (by omega)⟩
 ·rfl
 ·rfl
 ·rfl
 ·rfl
 ·cases h
theorem K5_:∀ {r:List Value} {l:List AV},K6_ r l=true->z1_ I w m l r
 | [],[],_=>trivial
 | v :: r,a :: l,h=>by
   simp only [K6_,Bool.and_eq_true] at h
   exact ⟨hz_ h.1,K5_ h.2⟩
 | [],_ :: _,h=>by cases h
 | _ :: _,[],h=>by cases h
theorem FOn.rv (hf:FOn L fr I w m a) {x:Operand} {y:Opd} (hm:y ∈ L) (h:zI_ x y=true):RV I w m (y.ev fr) (a.eval x):=by
 unfold zI_ at h
 split at h
 ·simp only [beq_iff_eq] at h;subst h;exact hf _ hm
 ·exact RV_0 (hz_ h)
 ·simp only [beq_iff_eq] at h;subst h;exact ⟨#[],#[],rfl,trivial,trivial⟩
 ·cases h
theorem FOn.mono {L':List Opd} (hf:FOn L fr I w m a) (h:∀ x ∈ L',x ∈ L):FOn L' fr I w m a:=fun i hi=>hf i (h _ hi)
theorem zp_ {k:IntKind} {n:Int} {v:Value} (h:RV I w m (.int k n) v):v=.int k n/\inK k n:=h
theorem zb3_ {b:Bool} {v:Value} (h:RV I w m (.bool b) v):v=.bool b:=h
theorem zeo_ {b:Bool} {v:Value} (h:RV I w m (.kb b) v):v=.bool b:=h
theorem zad_ {a:AV} {b:Bool} {v:Value} (h:RV I w m a v) (e:a.toB=some b):v=.bool b:=by
 cases a<;>simp only [AV.toB,Option.some.injEq,reduceCtorEq] at e
 ·subst e;exact h
 ·subst e;exact h
theorem Zk_ {k:IntKind} {n:Int} (h:inK k n):RV I w m (.int k n) (.int k n):=⟨rfl,h⟩
theorem qn_ {b:Bool}:RV I w m (.bool b) (.bool b):=rfl
theorem Y9_ {b:Bool}:RV I w m (.kb b) (.bool b):=rfl
theorem QB_ {n:Nat} (h:n<=maxLen):inK .i64 n:=by
 simp only [inK,IntKind.min,IntKind.max,IntKind.signed,IntKind.bits,if_true]
 unfold maxLen at h
 constructor<;>simp<;>omega
theorem za0_ {k:IntKind} {a b:Int} (ha:inK k a) (hb:b ≠ 0):inK k (a.tmod b):=by
 have h2:a.tmod b<=a.natAbs/\-(a.natAbs:Int)<=a.tmod b:=by
  have:=Int.natAbs_tmod a b
  have h3:=Nat.mod_le a.natAbs b.natAbs
  omega
 have h4:0<=a->0<=a.tmod b:=fun h=>Int.tmod_nonneg b h
 have h5:a<=0->a.tmod b<=0:=fun h=>by
  have:=Int.tmod_nonneg b (show 0<=-a by omega)
  rw [Int.neg_tmod] at this;omega
 cases k<;>simp only [inK,IntKind.min,IntKind.max,IntKind.signed,IntKind.bits] at ha ⊢<;>simp only [if_true,Bool.false_eq_true,if_false,Nat.reduceSub,Int.reducePow] at ha ⊢<;>omega
theorem za1_ {k:IntKind} {a:Int} {n:Nat} (ha:inK k a):inK k (a.fdiv (2 ^ n)):=by
 have hp:(0:Int) < 2 ^ n:=Int.pow_pos (by omega)
 have e:a.fdiv (2 ^ n)=a / 2 ^ n:=Int.fdiv_eq_ediv_of_nonneg a (Int.le_of_lt hp)
 rw [e]
 have h1:0<=a->0<=a / 2 ^ n/\a / 2 ^ n<=a:=fun h=>⟨Int.ediv_nonneg h (Int.le_of_lt hp),Int.ediv_le_self _ h⟩
 have h2:a < 0->a<=a / 2 ^ n/\a / 2 ^ n < 0:=fun h=>by
  refine ⟨?_,Int.ediv_neg_of_neg_of_pos h hp⟩
  rw [Int.le_ediv_iff_mul_le hp]
  have:a*2 ^ n<=a*1:=Int.mul_le_mul_of_nonpos_left (by omega) (by omega)
  omega
 cases k<;>simp only [inK,IntKind.min,IntKind.max,IntKind.signed,IntKind.bits] at ha ⊢<;>simp only [if_true,Bool.false_eq_true,if_false,Nat.reduceSub,Int.reducePow] at ha ⊢<;>
  rcases Int.lt_or_le a 0 with h | h<;>first | (have:=h2 h;omega) | (have:=h1 h;omega)
theorem Zr_ (s:ByteArray):(zK_ s).length=s.size:=by unfold zK_;rw [List.length_map,Array.length_toList];rfl
theorem HZ_ {s t:ByteArray}:zK_ s=zK_ t ↔ s=t:=by
 constructor
 ·intro h
  unfold zK_ at h
  have:s.data.toList=t.data.toList:=by
   refine List.map_inj_right (f:=fun b:UInt8=>(b.toNat:Int)) ?_ |>.1 h
   intro x y hxy
   exact UInt8.toNat_inj.1 (Int.ofNat.inj hxy)
  cases s;cases t;congr 1;exact Array.toList_inj.1 this
 ·intro h;rw [h]
theorem toList_inj {s t:ByteArray}:s.toList=t.toList ↔ s=t:=by
 constructor
 ·intro h;rw [ByteArray.toList_eq,ByteArray.toList_eq] at h
  cases s;cases t;congr 1;exact Array.toList_inj.1 h
 ·intro h;rw [h]
theorem uW_ (s t:ByteArray):(s.toList == t.toList)=decide (zK_ s=zK_ t):=by
 rw [Bool.eq_iff_iff];simp [HZ_,toList_inj]
theorem ul_ (s t:ByteArray):zK_ (s++t)=zK_ s++zK_ t:=by
 unfold zK_;simp
theorem w6_ (p q:Int):(p == q)=decide (p=q):=by rw [Bool.eq_iff_iff];simp
def POK (P:Program) (o:Oper) (L:List Opd) (fr:zg_) (K:AV->Prop):Prop:=
 ∃ v,K v/\∀ {I:Nat->Prop} {w:World} {m:M} {a:Act},FOn L fr I w m a->∃ cv,RV I w m v cv/\(execOp a.eval o).run P w=.ok (.value cv) w
theorem wt_ {S:Sem Value} {cv:Value} {w':World} (he:execOp a.eval o=(do pure (.value (<- S)))) (hr:S.run P w=.ok cv w'):(execOp a.eval o).run P w=.ok (.value cv) w':=by
 rw [he,Sem.run_bind,hr];rfl
theorem Xv_ {S:Sem Unit} {w':World} (he:execOp a.eval o=(do S;pure .skip)) (hr:S.run P w=.ok () w'):(execOp a.eval o).run P w=.ok .skip w':=by
 rw [he,Sem.run_bind,hr];rfl
theorem BL_ {op:BinOp} {X Y:AV} {K:AV->Prop} (ev:QD_ op X Y K):
 ∃ v,K v/\∀ {P:Program} {I:Nat->Prop} {w:World} {m:M} {a:Act} {xt:TypeId} {x y:Operand},RV I w m X (a.eval x)->RV I w m Y (a.eval y)->
   ∃ cv,RV I w m v cv/\(do eqGuard op xt x y (a.eval x) (a.eval y);binOp op xt (a.eval x) (a.eval y)).run P w=.ok cv w:=by
 cases op with
 | add=>
   simp only [QD_] at ev
   split at ev
   ·rename_i p q
    obtain ⟨h0,hk⟩:=zi_ ev
    refine ⟨_,hk,fun {P I w m a xt x y} hx hy=>?_⟩
    obtain ⟨s1,e1,rfl,h1⟩:=hx
    obtain ⟨s2,e2,rfl,h2⟩:=hy
    rw [Zr_,Zr_] at h0
    refine ⟨.string (s1++s2),⟨_,rfl,(ul_ s1 s2).symm,?_⟩,?_⟩
    ·rw [ByteArray.size_append];unfold maxLen;omega
    ·have hle:¬ (((s1.size+s2.size:Nat):Int) > IntKind.i64.max):=by
      simp only [IntKind.max,IntKind.signed,IntKind.bits,if_true];simp;omega
     rw [e1,e2]
     show (do eqGuard .add xt x y (.string s1) (.string s2);binOp .add xt (.string s1) (.string s2)).run P w=_
     simp only [binOp,Op.stringOp]
     rw [if_neg hle]
     simp [eqGuard]
   ·obtain ⟨k,p,q,rfl,rfl,ev'⟩:=zP_ ev;replace ev:=ev'
    refine ⟨_,Q3_ ev,fun {P I w m a xt x y} hx hy=>⟨_,Zk_ (qf_ _ _),?_⟩⟩
    simp [(zp_ hx).1,(zp_ hy).1,eqGuard,binOp,Op.intArith]
 | sub=>
   simp only [QD_] at ev
   obtain ⟨k,p,q,rfl,rfl,ev'⟩:=zP_ ev;replace ev:=ev'
   refine ⟨_,Q3_ ev,fun {P I w m a xt x y} hx hy=>⟨_,Zk_ (qf_ _ _),?_⟩⟩
   simp [(zp_ hx).1,(zp_ hy).1,eqGuard,binOp,Op.intArith]
 | mul=>
   simp only [QD_] at ev
   obtain ⟨k,p,q,rfl,rfl,ev'⟩:=zP_ ev;replace ev:=ev'
   refine ⟨_,Q3_ ev,fun {P I w m a xt x y} hx hy=>⟨_,Zk_ (qf_ _ _),?_⟩⟩
   simp [(zp_ hx).1,(zp_ hy).1,eqGuard,binOp,Op.intArith]
 | quo=>
   simp only [QD_] at ev
   obtain ⟨k,p,q,rfl,rfl,ev'⟩:=zP_ ev;replace ev:=ev'
   obtain ⟨h0,ev⟩:=zi_ ev
   refine ⟨_,Q3_ ev,fun {P I w m a xt x y} hx hy=>⟨_,Zk_ (qf_ _ _),?_⟩⟩
   simp [(zp_ hx).1,(zp_ hy).1,eqGuard,binOp,Op.intDiv,h0]
 | rem=>
   simp only [QD_] at ev
   obtain ⟨k,p,q,rfl,rfl,ev'⟩:=zP_ ev;replace ev:=ev'
   obtain ⟨h0,ev⟩:=zi_ ev
   refine ⟨_,ev,fun {P I w m a xt x y} hx hy=>⟨_,Zk_ (za0_ (zp_ hx).2 h0),?_⟩⟩
   simp [(zp_ hx).1,(zp_ hy).1,eqGuard,binOp,Op.intDiv,h0]
 | and=>
   simp only [QD_] at ev
   obtain ⟨k,p,q,rfl,rfl,ev'⟩:=zP_ ev;replace ev:=ev'
   refine ⟨_,ev,fun {P I w m a xt x y} hx hy=>⟨_,Zk_ (qf_ _ _),?_⟩⟩
   simp [(zp_ hx).1,(zp_ hy).1,eqGuard,binOp,Op.intBits,Qk_]
 | or=>
   simp only [QD_] at ev
   obtain ⟨k,p,q,rfl,rfl,ev'⟩:=zP_ ev;replace ev:=ev'
   refine ⟨_,ev,fun {P I w m a xt x y} hx hy=>⟨_,Zk_ (qf_ _ _),?_⟩⟩
   simp [(zp_ hx).1,(zp_ hy).1,eqGuard,binOp,Op.intBits,Qk_]
 | xor=>
   simp only [QD_] at ev
   obtain ⟨k,p,q,rfl,rfl,ev'⟩:=zP_ ev;replace ev:=ev'
   refine ⟨_,ev,fun {P I w m a xt x y} hx hy=>⟨_,Zk_ (qf_ _ _),?_⟩⟩
   simp [(zp_ hx).1,(zp_ hy).1,eqGuard,binOp,Op.intBits,Qk_]
 | andNot=>
   simp only [QD_] at ev
   obtain ⟨k,p,q,rfl,rfl,ev'⟩:=zP_ ev;replace ev:=ev'
   refine ⟨_,ev,fun {P I w m a xt x y} hx hy=>⟨_,Zk_ (qf_ _ _),?_⟩⟩
   simp [(zp_ hx).1,(zp_ hy).1,eqGuard,binOp,Op.intBits,Qk_]
 | shl=>
   simp only [QD_] at ev
   split at ev
   ·rename_i k p k' q
    obtain ⟨h0,ev⟩:=zi_ ev
    refine ⟨_,Q3_ ev,fun {P I w m a xt x y} hx hy=>⟨_,Zk_ (qf_ _ _),?_⟩⟩
    simp [(zp_ hx).1,(zp_ hy).1,eqGuard,binOp,Op.shift,show ¬ q < 0 by omega]
   ·exact ev.elim
 | shr=>
   simp only [QD_] at ev
   split at ev
   ·rename_i k p k' q
    obtain ⟨h0,ev⟩:=zi_ ev
    refine ⟨_,ev,fun {P I w m a xt x y} hx hy=>⟨_,Zk_ (za1_ (zp_ hx).2),?_⟩⟩
    simp [(zp_ hx).1,(zp_ hy).1,eqGuard,binOp,Op.shift,show ¬ q < 0 by omega]
   ·exact ev.elim
 | eql=>
   simp only [QD_] at ev
   split at ev
   ·refine ⟨_,ev,fun {P I w m a xt x y} hx hy=>?_⟩
    obtain ⟨s1,e1,rfl,h1⟩:=hx
    obtain ⟨s2,e2,rfl,h2⟩:=hy
    exact ⟨_,qn_,by simp [e1,e2,eqGuard,binOp,Op.stringOp,uW_,bne]⟩
   ·obtain ⟨k,p,q,rfl,rfl,ev'⟩:=zP_ ev;replace ev:=ev'
    refine ⟨_,ev,fun {P I w m a xt x y} hx hy=>⟨_,qn_,?_⟩⟩
    simp [(zp_ hx).1,(zp_ hy).1,eqGuard,binOp,Op.intCmp,w6_]
 | neq=>
   simp only [QD_] at ev
   split at ev
   ·refine ⟨_,ev,fun {P I w m a xt x y} hx hy=>?_⟩
    obtain ⟨s1,e1,rfl,h1⟩:=hx
    obtain ⟨s2,e2,rfl,h2⟩:=hy
    exact ⟨_,qn_,by simp [e1,e2,eqGuard,binOp,Op.stringOp,uW_,bne]⟩
   ·obtain ⟨k,p,q,rfl,rfl,ev'⟩:=zP_ ev;replace ev:=ev'
    refine ⟨_,ev,fun {P I w m a xt x y} hx hy=>⟨_,qn_,?_⟩⟩
    simp [(zp_ hx).1,(zp_ hy).1,eqGuard,binOp,Op.intCmp,bne,w6_]
 | lss=>
   simp only [QD_] at ev
   obtain ⟨k,p,q,rfl,rfl,ev'⟩:=zP_ ev;replace ev:=ev'
   refine ⟨_,ev,fun {P I w m a xt x y} hx hy=>⟨_,qn_,?_⟩⟩
   simp [(zp_ hx).1,(zp_ hy).1,eqGuard,binOp,Op.intCmp,w6_]
 | leq=>
   simp only [QD_] at ev
   obtain ⟨k,p,q,rfl,rfl,ev'⟩:=zP_ ev;replace ev:=ev'
   refine ⟨_,ev,fun {P I w m a xt x y} hx hy=>⟨_,qn_,?_⟩⟩
   simp [(zp_ hx).1,(zp_ hy).1,eqGuard,binOp,Op.intCmp,w6_]
 | gtr=>
   simp only [QD_] at ev
   obtain ⟨k,p,q,rfl,rfl,ev'⟩:=zP_ ev;replace ev:=ev'
   refine ⟨_,ev,fun {P I w m a xt x y} hx hy=>⟨_,qn_,?_⟩⟩
   simp [(zp_ hx).1,(zp_ hy).1,eqGuard,binOp,Op.intCmp,w6_]
 | geq=>
   simp only [QD_] at ev
   obtain ⟨k,p,q,rfl,rfl,ev'⟩:=zP_ ev;replace ev:=ev'
   refine ⟨_,ev,fun {P I w m a xt x y} hx hy=>⟨_,qn_,?_⟩⟩
   simp [(zp_ hx).1,(zp_ hy).1,eqGuard,binOp,Op.intCmp,w6_]
theorem qr_ {b:Builtin} {args:Array Operand} {ts:Array TypeId}
 (ho:o.op=.call {callee:=.builtin b,args:=args,argTypes:=ts}):
 execOp a.eval o=builtin b ts o.type (args.map fun | .const _=>true | _=>false) (args.map a.eval):=by
 unfold execOp
 simp only [ho]
 rfl
theorem BY_ {op:UnOp} {X:AV} {K:AV->Prop} (ev:evUn op X K):
 ∃ v,K v/\∀ {P:Program} {I:Nat->Prop} {w:World} {m:M} {x:Value},RV I w m X x->∃ cv,RV I w m v cv/\(Op.unary op x).run P w=.ok cv w:=by
 unfold evUn at ev
 split at ev
 ·exact ⟨_,ev,fun {P I w m x} hx=>⟨_,qn_,by rw [zb3_ hx];simp [Op.unary]⟩⟩
 ·rename_i b
  exact ⟨_,ev,fun {P I w m x} hx=>⟨_,Y9_,by rw [zeo_ hx];cases b<;>simp [Op.unary]⟩⟩
 ·exact ⟨_,Q3_ ev,fun {P I w m x} hx=>⟨_,Zk_ (qf_ _ _),by rw [(zp_ hx).1];simp [Op.unary,Op.intArith]⟩⟩
 ·exact ⟨_,ev,fun {P I w m x} hx=>⟨_,Zk_ (qf_ _ _),by rw [(zp_ hx).1];simp [Op.unary,Op.intBits,Qk_]⟩⟩
 ·exact ev.elim
theorem gw_ {d:Nat} {t:TypeId} {p q:Bool} (ht:P.underlying t=some .bool):
 (Op.equalIn (d+1) t (.bool p) (.bool q)).run P w=.ok (p == q) w:=by
 unfold Op.equalIn
 simp only [Sem.run_bind,run_underlying ht,Result.andThen_ok,Sem.run_pure]
theorem wv_ {d:Nat} {t e:TypeId} {x y:Option Addr} (ht:P.underlying t=some (.pointer e)) (h:x=none\/y=none):
 (Op.equalIn (d+1) t (.pointer x) (.pointer y)).run P w=.ok (x.isNone && y.isNone) w:=by
 unfold Op.equalIn
 simp only [Sem.run_bind,run_underlying ht,Result.andThen_ok]
 rcases h with rfl | rfl
 ·simp
 ·cases x<;>simp
theorem X8_ {d:Nat} {t k e:TypeId} {x y:Option Nat} (ht:P.underlying t=some (.map k e)) (h:x=none\/y=none):
 (Op.equalIn (d+1) t (.map x) (.map y)).run P w=.ok (x.isNone && y.isNone) w:=by
 unfold Op.equalIn
 simp only [Sem.run_bind,run_underlying ht,Result.andThen_ok]
 rcases h with rfl | rfl
 ·simp
 ·cases x<;>simp
theorem uk_ {d:Nat} {t e:TypeId} {x:Option Addr} {n c:Nat} (ht:P.underlying t=some (.slice e)):
 (Op.equalIn (d+1) t (.slice x n c) (.slice none 0 0)).run P w=.ok x.isNone w:=by
 unfold Op.equalIn
 simp only [Sem.run_bind,run_underlying ht,Result.andThen_ok]
 cases x<;>simp
theorem WK_ {neg:Bool} {xt:TypeId} {x y:Operand} {u v:Value} {r:Bool}
 (hk:(∃ p q,u=.bool p/\v=.bool q)\/(∃ p q,u=.pointer p/\v=.pointer q)\/(∃ p q,u=.map p/\v=.map q)\/(∃ p n c q n' c',u=.slice p n c/\v=.slice q n' c')) (hr:(Op.equal xt u v).run P w=.ok r w):
 (do eqGuard (if neg then .neq else .eql) xt x y u v;binOp (if neg then .neq else .eql) xt u v).run P w=.ok (.bool (match neg with | true=>!r | false=>r)) w:=by
 cases neg
 ·have e:(do eqGuard .eql xt x y u v;binOp .eql xt u v:Sem Value)=(do let r <- Op.equal xt u v;pure (.bool r)):=by
   rcases hk with ⟨p,q,rfl,rfl⟩ | ⟨p,q,rfl,rfl⟩ | ⟨p,q,rfl,rfl⟩ | ⟨p,n,c,q,n',c',rfl,rfl⟩<;>rfl
  show (do eqGuard .eql xt x y u v;binOp .eql xt u v:Sem Value).run P w=_
  rw [e,Sem.run_bind,hr];rfl
 ·have e:(do eqGuard .neq xt x y u v;binOp .neq xt u v:Sem Value)=(do let r <- Op.equal xt u v;pure (.bool (!r))):=by
   rcases hk with ⟨p,q,rfl,rfl⟩ | ⟨p,q,rfl,rfl⟩ | ⟨p,q,rfl,rfl⟩ | ⟨p,n,c,q,n',c',rfl,rfl⟩<;>rfl
  show (do eqGuard .neq xt x y u v;binOp .neq xt u v:Sem Value).run P w=_
  rw [e,Sem.run_bind,hr];rfl
theorem BB_ {neg:Bool} {X Y:AV} {K:AV->Prop} (ev:eqpK neg X Y K):
 ∃ v,K v/\∀ {P:Program} {I:Nat->Prop} {w:World} {m:M} {a:Act} {xt e:TypeId} {x y:Operand},P.underlying xt=some (.pointer e)->RV I w m X (a.eval x)->RV I w m Y (a.eval y)->
   ∃ cv,RV I w m v cv/\(do eqGuard (if neg then .neq else .eql) xt x y (a.eval x) (a.eval y);binOp (if neg then .neq else .eql) xt (a.eval x) (a.eval y)).run P w=.ok cv w:=by
 unfold eqpK at ev
 split at ev
 ·refine ⟨_,ev,fun {P I w m a xt e x y} ht hx hy=>⟨.bool (!neg),Y9_,?_⟩⟩
  have h1:a.eval x=.pointer none:=hx
  have h2:a.eval y=.pointer none:=hy
  rw [WK_ (r:=true) (.inr (.inl ⟨_,_,h1,h2⟩)) (by rw [h1,h2];exact wv_ (d:=9999) ht (.inl rfl))]
  cases neg<;>rfl
 ·refine ⟨_,ev,fun {P I w m a xt e x y} ht hx hy=>⟨.bool neg,Y9_,?_⟩⟩
  obtain ⟨b,_,h1,_⟩:=hx
  have h2:a.eval y=.pointer none:=hy
  rw [WK_ (r:=false) (.inr (.inl ⟨_,_,h1,h2⟩)) (by rw [h1,h2];exact wv_ (d:=9999) ht (.inr rfl))]
  cases neg<;>rfl
 ·refine ⟨_,ev,fun {P I w m a xt e x y} ht hx hy=>⟨.bool neg,Y9_,?_⟩⟩
  obtain ⟨b,_,h2,_⟩:=hy
  have h1:a.eval x=.pointer none:=hx
  rw [WK_ (r:=false) (.inr (.inl ⟨_,_,h1,h2⟩)) (by rw [h1,h2];exact wv_ (d:=9999) ht (.inl rfl))]
  cases neg<;>rfl
 ·exact ev.elim
theorem x0_ {t:TypeId} {d:TypeDesc} (h:P.underlying t=some d) (w:World):(isAgg t).run P w=.ok (aggB d) w:=by
 unfold isAgg
 rw [Sem.run_bind,run_underlying h]
 cases d<;>rfl
theorem z4_ {t:TypeId} {i:TypeInfo} (h:P.info? t=some i) (w:World):(sizeOf t).run P w=.ok i.size w:=by
 unfold sizeOf typeInfo
 simp [h]
theorem Xi_ {t:TypeId} {n:Option Nat} (h:nOk P t n=true):
 ∃ d i,P.underlying t=some d/\P.info? t=some i/\((aggB d=true/\n=some i.size)\/(aggB d=false/\n=none/\i.size=1)):=by
 unfold nOk at h
 split at h
 ·rename_i d i hd hi
  refine ⟨d,i,hd,hi,?_⟩
  split at h
  ·rename_i hb;exact .inl ⟨hb,by simpa using h⟩
  ·rename_i hb;simp only [Bool.and_eq_true,beq_iff_eq] at h;exact .inr ⟨hb,h.1,h.2⟩
 ·cases h
theorem k3_ {t:TypeId} {i:TypeInfo} {v:Value} (h:P.info? t=some i) (hz:i.zero=some v):(zeroValue t).run P w=.ok v w:=by
 simp [zeroValue,typeInfo,h,hz]
theorem uo_ {t:TypeId} {z:List AV} (h:u7_ P t z=true):∃ i v,P.info? t=some i/\i.zero=some v/\K6_ v.cells.toList z=true:=by
 unfold u7_ at h
 split at h
 ·rename_i i hi
  split at h
  ·rename_i v hv;exact ⟨i,v,hi,hv,h⟩
  ·cases h
 ·cases h
end ops
end Go.Eng
namespace Go.Eng
set_option linter.unusedVariables false
set_option linter.unusedSimpArgs false
set_option maxRecDepth 10000
open Go.RowKit
def zeV_:Leaf->Value->Prop
 | .int k,v=>∃ n,v=.int k n/\inK k n
 | .bool,v=>∃ b,v=.bool b
 | .str,v=>∃ s:ByteArray,v=.string s/\s.size<=maxLen
def Ko_:List Leaf->List Value->Prop
 | [],[]=>True
 | k :: ks,v :: vs=>zeV_ k v/\Ko_ ks vs
 | _,_=>False
def QR_:Value->Lit
 | .int k n=>.int k n
 | .bool b=>.bool b
 | .string s=>.string s.data.toList
 | _=>.nil
theorem Ko_.length:∀ {ks:List Leaf} {vs:List Value},Ko_ ks vs->vs.length=ks.length
 | [],[],_=>rfl
 | k :: ks,v :: vs,h=>by simp [Ko_.length h.2]
 | [],_ :: _,h=>h.elim
 | _ :: _,[],h=>h.elim
theorem Ko_.split:∀ {ks ks':List Leaf} {vs:List Value},Ko_ (ks++ks') vs->Ko_ ks (vs.take ks.length)/\Ko_ ks' (vs.drop ks.length)
 | [],ks',vs,h=>by simpa [Ko_] using h
 | k :: ks,ks',v :: vs,h=>by
   have:=Ko_.split (ks:=ks) (ks':=ks') h.2
   exact ⟨⟨h.1,this.1⟩,this.2⟩
 | k :: ks,ks',[],h=>h.elim
theorem X3_ {P:Program} {D:Nat} {rec:TypeId->Option (List Leaf)} (hrec:∀ t ks cs,rec t=some ks->Ko_ ks cs->P.keyLits D t cs=some (cs.map QR_)) (all:List Value):∀ (fs:List Field) (off:Nat) (ks:List Leaf),jB_ P.cellsOf rec fs off=some ks->Ko_ ks (all.drop off)->
 ∃ Ls,fs.mapM (fun f=>P.keyLits D f.type ((all.drop f.offset).take (P.cellsOf f.type)))=some Ls/\Ls.flatten=(all.drop off).map QR_
 | [],off,ks,h,hf=>by
   simp only [jB_,Option.some.injEq] at h
   subst h
   have:all.drop off=[]:=List.length_eq_zero_iff.1 hf.length
   exact ⟨[],rfl,by rw [this];rfl⟩
 | f :: r,off,ks,h,hf=>by
   simp only [jB_] at h
   split at h
   ·rename_i hc
    obtain ⟨h1,h2⟩:=hc
    cases hk:rec f.type with
    | none=>rw [hk] at h;cases h
    | some ks1=>
      rw [hk] at h
      simp only [Option.bind_some] at h
      split at h
      ·rename_i hl
       simp only [Option.map_eq_some_iff] at h
       obtain ⟨ks2,h3,rfl⟩:=h
       obtain ⟨g1,g2⟩:=hf.split
       rw [List.drop_drop] at g2
       obtain ⟨Ls,e1,e2⟩:=X3_ hrec all r (off+ks1.length) ks2 h3 g2
       have e3:=hrec _ _ _ hk g1
       refine ⟨((all.drop off).take ks1.length).map QR_ :: Ls,?_,?_⟩
       ·rw [List.mapM_cons,h1,<- hl,e3,e1];rfl
       ·rw [List.flatten_cons,e2,<- List.map_append]
        congr 1
        rw [<- List.drop_drop,List.take_append_drop]
      ·cases h
   ·cases h
theorem vb_ {P:Program} {D:Nat} {e:TypeId} {ks:List Leaf} (hrec:∀ cs,Ko_ ks cs->P.keyLits D e cs=some (cs.map QR_)) (all:List Value):∀ (n start:Nat),Ko_ (List.replicate n ks).flatten (all.drop (start*ks.length))->
 ∃ Ls,(List.range' start n).mapM (fun i=>P.keyLits D e ((all.drop (i*ks.length)).take ks.length))=some Ls/\Ls.flatten=(all.drop (start*ks.length)).map QR_
 | 0,start,hf=>by
   have:all.drop (start*ks.length)=[]:=List.length_eq_zero_iff.1 hf.length
   exact ⟨[],rfl,by rw [this];rfl⟩
 | n+1,start,hf=>by
   rw [List.replicate_succ,List.flatten_cons] at hf
   obtain ⟨g1,g2⟩:=hf.split
   rw [List.drop_drop,show start*ks.length+ks.length=(start+1)*ks.length by rw [Nat.add_mul,Nat.one_mul]] at g2
   obtain ⟨Ls,e1,e2⟩:=vb_ hrec all n (start+1) g2
   refine ⟨((all.drop (start*ks.length)).take ks.length).map QR_ :: Ls,?_,?_⟩
   ·rw [List.range'_succ,List.mapM_cons,hrec _ g1,e1];rfl
   ·rw [List.flatten_cons,e2,<- List.map_append]
    congr 1
    rw [show (start+1)*ks.length=start*ks.length+ks.length by rw [Nat.add_mul,Nat.one_mul],<- List.drop_drop,List.take_append_drop]
theorem WE_ {P:Program}:∀ (D:Nat) (t:TypeId) (ks:List Leaf) (cs:List Value),qK_ P D t=some ks->Ko_ ks cs->P.keyLits D t cs=some (cs.map QR_)
 | 0,_,_,_,h,_=>by cases h
 | D+1,t,ks,cs,h,hf=>by
   unfold qK_ at h
   unfold Program.keyLits
   split at h
   ·rename_i hu
    cases h
    cases cs with
    | nil=>exact hf.elim
    | cons v r=>
      obtain ⟨⟨b,rfl⟩,h2⟩:=hf
      cases r with
      | cons _ _=>exact (h2:False).elim
      | nil=>rw [hu];rfl
   ·rename_i k hu
    cases h
    cases cs with
    | nil=>exact hf.elim
    | cons v r=>
      obtain ⟨⟨n,rfl,hn⟩,h2⟩:=hf
      cases r with
      | cons _ _=>exact (h2:False).elim
      | nil=>
        rw [hu]
        have:(Lit.int k n).wf=true:=by simp only [Lit.wf,Bool.and_eq_true,decide_eq_true_eq];exact hn
        simp [this,QR_]
   ·rename_i hu
    cases h
    cases cs with
    | nil=>exact hf.elim
    | cons v r=>
      obtain ⟨⟨s,rfl,hs⟩,h2⟩:=hf
      cases r with
      | cons _ _=>exact (h2:False).elim
      | nil=>rw [hu];simp [hs,QR_]
   ·rename_i n e hu
    cases hk:qK_ P D e with
    | none=>rw [hk] at h;cases h
    | some ks1=>
      rw [hk] at h
      simp only [Option.bind_some] at h
      split at h
      ·rename_i hl
       cases h
       obtain ⟨Ls,e1,e2⟩:=vb_ (P:=P) (D:=D) (e:=e) (fun cs hc=>WE_ D e ks1 cs hk hc) cs n 0 (by simpa using hf)
       have hlen:cs.length=P.cellsOf t:=by rw [hf.length,hl.2];simp
       rw [hu]
       simp only [hlen,if_true]
       rw [<- hl.1,List.range_eq_range',e1]
       simp only [Option.map_some,e2,Nat.zero_mul,List.drop_zero]
      ·cases h
   ·rename_i fs hu
    cases hk:jB_ P.cellsOf (qK_ P D) fs.toList 0 with
    | none=>rw [hk] at h;cases h
    | some ks1=>
      rw [hk] at h
      simp only [Option.bind_some] at h
      split at h
      ·rename_i hl
       cases h
       obtain ⟨Ls,e1,e2⟩:=X3_ (P:=P) (D:=D) (fun t ks cs h hc=>WE_ D t ks cs h hc) cs fs.toList 0 _ hk (by simpa using hf)
       have hlen:cs.length=P.cellsOf t:=by rw [hf.length,hl]
       have hn : fs.all (·.name != "_") = true := by
        rw [Array.all_eq_true']
        have key : ∀ (l : List Field) (off : Nat) (ks : List Leaf), jB_ P.cellsOf (qK_ P D) l off = some ks -> ∀ f ∈ l, f.name ≠ "_" := fun l => by
         induction l with
         | nil=>intro _ _ _ f hf;cases hf
         | cons g r ih=>
           intro off ks h f hf
           simp only [jB_] at h
           split at h
           ·rename_i hc
            rcases List.mem_cons.1 hf with rfl | hf
            ·exact hc.2
            ·cases hk:qK_ P D g.type with
             | none=>rw [hk] at h;cases h
             | some k1=>
               rw [hk] at h
               simp only [Option.bind_some] at h
               split at h
               ·simp only [Option.map_eq_some_iff] at h
                obtain ⟨k2,h3,_⟩:=h
                exact ih _ _ h3 f hf
               ·cases h
           ·cases h
        intro f hf
        simpa using key _ _ _ hk f (by simpa using hf)
       rw [hu]
       simp only [hlen,hn,true_and,if_true,and_self]
       rw [e1]
       simp only [Option.map_some,e2,List.drop_zero]
      ·cases h
   ·cases h
theorem GX_ {P:Program} {d:Nat} {t:TypeId} {ks:List Leaf} (h:qK_ P d t=some ks) (hw:gb_ P t=true):ks.length=P.cellsOf t:=by
 cases d with
 | zero=>cases h
 | succ d=>
   unfold qK_ at h
   unfold gb_ at hw
   split at h
   ·rename_i hu;rw [hu] at hw;cases hw
   ·rename_i hu;rw [hu] at hw;cases hw
   ·rename_i hu;rw [hu] at hw;cases hw
   ·cases hk:qK_ P d _ with
    | none=>rw [hk] at h;cases h
    | some k=>
      rw [hk] at h
      simp only [Option.bind_some] at h
      split at h
      ·rename_i hl;cases h;rw [hl.2];simp
      ·cases h
   ·cases hk:jB_ P.cellsOf (qK_ P d) _ 0 with
    | none=>rw [hk] at h;cases h
    | some k=>
      rw [hk] at h
      simp only [Option.bind_some] at h
      split at h
      ·rename_i hl;cases h;exact hl
      ·cases h
   ·cases h
end Go.Eng
