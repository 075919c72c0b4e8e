/- Parts of the proof: ECore. No condition. -/
import Derived.Calls
import Derived.Tactics
import Derived.Below
namespace Go.Eng
set_option linter.unusedVariables false
set_option linter.unusedSimpArgs false
inductive Ty where
 | int (k:IntKind) | bool | str | nil | cons (a b:Ty) | sl (t:Ty)
 deriving DecidableEq
@[reducible] def Ty.den:Ty->Type
  | .int _=>Int
  | .bool=>Bool
  | .str=>List Int
  | .nil=>Unit
  | .cons a b=>a.den × b.den
  | .sl t=>List t.den
def Ty.dflt:(t:Ty)->t.den
 | .int _=>(0:Int)
 | .bool=>false
 | .str=>([]:List Int)
 | .nil=>()
 | .cons a b=>(a.dflt,b.dflt)
 | .sl t=>([]:List t.den)
def Ty.size:Ty->Nat
 | .nil=>0
 | .cons a b=>a.size+b.size
 | _=>1
def Ty.plain:Ty->Bool
 | .sl _=>false
 | .cons a b=>match a.plain with | true=>b.plain | false=>false
 | _=>true
inductive AV where
 | undef
 | skp
 | int (k:IntKind) (n:Int)
 | bool (b:Bool)
 | kb (b:Bool)
 | str (l:List Int)
 | nilp
 | nilm
 | nils
 | ptr (id off:Nat)
 | imm (t:Ty) (x:List t.den)
 | iptr (t:Ty) (x:List t.den) (i off:Nat)
 | own (id:Nat)
 | view (id off len:Nat)
 | rptr (id i off:Nat)
 | mapv (id:Nat)
 | bview (id off n:Nat) (t:Ty)
 | agg (l:List AV)
 | fn (f:Nat) (first cap:List AV)
 | tup (l:List AV)
 | yv (l:Nat)
 | fnp (f i:Nat)
instance:Inhabited AV:=⟨.undef⟩
def Ty.cells:(t:Ty)->t.den->List AV
 | .int k,n=>[.int k n]
 | .bool,b=>[.bool b]
 | .str,s=>[.str s]
 | .nil,_=>[]
 | .cons a b,x=>a.cells x.1++b.cells x.2
 | .sl t,l=>[.imm t l]
structure CastG (t' t:Ty) (x:List t'.den) (K:List t.den->Prop) (r:Prop):Prop where
 go:∀ h:t'=t,K (h ▸ x)->r
def Qz_ (t' t:Ty) (x:List t'.den) (K:List t.den->Prop):Prop:=∀ r:Prop,CastG t' t x K r->r
theorem zb_ {t:Ty} {x:List t.den} {K:List t.den->Prop} {r:Prop} (h:CastG t t x K r) (k:K x):r:=h.go rfl k
def Ty.ofCells:(t:Ty)->List AV->Option (t.den × List AV)
 | .int k,.int k' n :: r=>match decEq k k' with | isTrue _=>some (n,r) | isFalse _=>none
 | .bool,.bool b :: r=>some (b,r)
 | .bool,.kb b :: r=>some (b,r)
 | .str,.str s :: r=>some (s,r)
 | .nil,r=>some ((),r)
 | .cons a b,l=>
   match a.ofCells l with
   | some (x,r)=>
     match b.ofCells r with
     | some (y,r')=>some ((x,y),r')
     | none=>none
   | none=>none
 | .sl t,.imm t' x :: r=>match decEq t' t with | isTrue h=>some (h ▸ x,r) | isFalse _=>none
 | .sl _,.nils :: r=>some ([],r)
 | _,_=>none
def Ty.ofK:(t:Ty)->List AV->(t.den->List AV->Prop)->Prop
 | .int k,.int k' n :: r,K=>match decEq k k' with | isTrue _=>K n r | isFalse _=>False
 | .bool,.bool b :: r,K=>K b r
 | .bool,.kb b :: r,K=>K b r
 | .str,.str s :: r,K=>K s r
 | .nil,r,K=>K () r
 | .cons a b,l,K=>a.ofK l fun x r=>b.ofK r fun y r=>K (x,y) r
 | .sl t,.imm t' x :: r,K=>Qz_ t' t x fun x=>K x r
 | .sl _,.nils :: r,K=>K [] r
 | _,_,_=>False
def Ty.oneQ (t:Ty) (l:List AV) (K:t.den->Prop):Prop:=t.ofK l fun x r=>match r with | []=>K x | _ :: _=>False
def Ty.allK (t:Ty):Nat->List AV->(List t.den->Prop)->Prop
 | 0,[],K=>K []
 | 0,_ :: _,_=>False
 | n+1,l,K=>t.ofK l fun x r=>Ty.allK t n r fun y=>K (x :: y)
def AV.toB:AV->Option Bool
 | .bool b=>some b
 | .kb b=>some b
 | _=>none
def WP_ (f:Nat) (l c:List AV):Option (List AV):=match l with
 | []=>(match c with
   | [.ptr i o]=>(match o with | 0=>some [.fnp f i] | _+1=>none)
   | _=>none)
 | _ :: _=>none
def AV.flat:AV->Option (List AV)
 | .agg l=>some l
 | .undef=>none
 | .skp=>none
 | .tup _=>none
 | .fn f l c=>WP_ f l c
 | v=>some [v]
def AV.asFn:AV->AV
 | .fnp f i=>.fn f [] [.ptr i 0]
 | v=>v
inductive Opd where
 | t (i:Nat)
 | c (v:AV)
 | f (i:Nat)
inductive Leaf where
 | int (k:IntKind) | bool | str
 deriving DecidableEq
inductive Obj where
 | dead
 | box (cells:List AV)
 | row (fz:Bool) (t:Ty) (x:List t.den)
 | map (sq:Bool) (kt vt:Ty) (l:List (kt.den × vt.den))
 | iter (s:List Int) (pos:Nat)
 | lrec (r:Go.Loop) (c:Nat)
 | miter (v:AV) (n:Nat) (seen:List Nat)
 | rowp (t:Ty) (x:List t.den) (len cap:Nat)
inductive IOp where
 | mov (x:Opd)
 | bin (op:BinOp) (x y:Opd)
 | eqb (neg:Bool) (x y:Opd)
 | un (op:UnOp) (x:Opd)
 | conv (k:IntKind) (x:Opd)
 | pick (c x y:Opd)
 | len (x:Opd)
 | slen (x:Opd)
 | minmax (mx:Bool) (x y:Opd)
 | fieldAddr (off:Nat) (a:Opd)
 | indexSl (size:Nat) (a i:Opd)
 | indexArr (size n:Nat) (a i:Opd)
 | sindex (x i:Opd)
 | build (zero:List AV) (zu_:List (Nat × Nat × Opd))
 | buildAll (tot:Nat) (zu_:List (Nat × Nat × Opd))
 | slice (size:Nat) (x:Opd) (lo hi mx:Option Opd)
 | extract (x:Opd) (i:Nat)
 | mkfn (f:Nat) (first cap:List Opd)
 | box (zero:List AV)
 | boxv (x:Opd)
 | load (n:Option Nat) (a:Opd)
 | loadI (k:IntKind) (a:Opd)
 | store (n:Nat) (a x:Opd)
 | sliceAll (t:Ty) (n:Nat) (zu_:List (Nat × Nat × Opd))
 | sliceOwn (t:Ty) (n:Nat) (zu_:List (Nat × Nat × Opd))
 | slice0 (t:Ty)
 | mkrow (t:Ty) (bytes:Nat) (zero:t.den) (n c:Opd)
 | append (t:Ty) (bytes:Nat) (x y:Opd)
 | copy (t:Ty) (x y:Opd)
 | b2s (x:Opd)
 | call (own:Bool) (f:Opd) (args:List Opd)
 | eqs (neg:Bool) (ks:List Leaf) (x y:Opd)
 | calln (f:Opd) (args:List Opd)
 | capp (x:Opd)
 | sliceX (size:Nat) (x hi:Opd)
 | sliceP (size:Nat) (x:Opd) (lo hi:Option Opd)
 | ovl (f:Nat) (x y:Opd)
 | copyP (t:Ty) (x y:Opd)
 | appendzP (t:Ty) (bytes:Nat) (zero:t.den) (x n:Opd)
 | clr (t:Ty) (zero:t.den) (x:Opd)
structure IOper where
 dst:Option Nat
 op:IOp
 guard:Option (Nat × Bool)
inductive IR where
 | skip
 | reg (ops:List IOper)
 | regD (ops:List (IOper × List Nat))
 | seq (a b:IR)
 | cond (c:Opd) (a b:IR)
 | block (id:Nat) (a:IR)
 | loop (a:IR)
 | cut (a:IR)
 | keep (l:List Nat) (a:IR)
 | exit (id:Nat)
 | ret
 | scope (a:IR)
 | rng (f:Nat) (ps lv:List Nat) (g:Nat) (asg body gir:IR)
 | yld (pre:List IOper) (d:Option Nat) (y:Opd) (args:List Opd) (lv:List Nat) (suf:List IOper)
abbrev kr (l:List Nat) (o:List IOper):IR:=.keep l (.reg o)
abbrev kd (l:List Nat) (o:List (IOper × List Nat)):IR:=.keep l (.regD o)
abbrev sq (a b:IR):IR:=.seq a b
instance instT (n:Nat):OfNat Opd n:=⟨.t n⟩
abbrev oM (d s:Nat):IOper:=⟨some d,.mov (.t s),none⟩
abbrev oD (d:Nat) (o:IOp):IOper:=⟨some d,o,none⟩
abbrev oN (o:IOp):IOper:=⟨none,o,none⟩
abbrev oT (g d:Nat) (o:IOp):IOper:=⟨some d,o,some (g,true)⟩
abbrev oF (g d:Nat) (o:IOp):IOper:=⟨some d,o,some (g,false)⟩
abbrev oL (d s:Nat):IOper:=⟨some d,.load none (.t s),none⟩
abbrev oA (d f s:Nat):IOper:=⟨some d,.fieldAddr f (.t s),none⟩
abbrev oB (d:Nat) (o:BinOp) (x y:Opd):IOper:=⟨some d,.bin o x y,none⟩
abbrev oC (d f:Nat) (l:List Opd):IOper:=⟨some d,.call false (.f f) l,none⟩
abbrev oX (d s i:Nat):IOper:=⟨some d,.extract (.t s) i,none⟩
abbrev oP (d c:Nat) (x y:Opd):IOper:=⟨some d,.pick (.t c) x y,none⟩
abbrev oK (d n s:Nat):IOper:=⟨some d,.load (some n) (.t s),none⟩
abbrev oS (n a x:Nat):IOper:=⟨none,.store n (.t a) (.t x),none⟩
abbrev oI (d n a i:Nat):IOper:=⟨some d,.indexSl n (.t a) (.t i),none⟩
abbrev oE (d s:Nat):IOper:=⟨some d,.len (.t s),none⟩
abbrev cI (n:Int):Opd:=.c (.int .i64 n)
abbrev cF:Opd:=.c (.kb false)
abbrev cT:Opd:=.c (.kb true)
abbrev zd_:=List (Nat × AV)
abbrev za_:=List (Nat × Obj)
def zd_.get:zd_->Nat->AV
 | [],_=>.undef
 | (j,v) :: r,i=>match Nat.beq j i with | true=>v | false=>zd_.get r i
def za_.get:za_->Nat->Option Obj
 | [],_=>none
 | (j,v) :: r,i=>match Nat.beq j i with | true=>some v | false=>za_.get r i
def za_.set:za_->Nat->Obj->za_
 | [],i,o=>[(i,o)]
 | (j,v) :: r,i,o=>match Nat.beq j i with | true=>(j,o) :: r | false=>(j,v) :: za_.set r i o
def za_.setK:za_->Nat->Obj->(za_->Prop)->Prop
 | [],i,o,K=>K [(i,o)]
 | (j,v) :: r,i,o,K=>match Nat.beq j i with | true=>K ((j,o) :: r) | false=>za_.setK r i o fun r=>K ((j,v) :: r)
theorem za_.setK_eq:∀ (st:za_) (i:Nat) (o:Obj) (K:za_->Prop),st.setK i o K=K (st.set i o)
 | [],_,_,_=>rfl
 | (j,v) :: r,i,o,K=>by
   unfold za_.setK za_.set
   cases Nat.beq j i with
   | true=>rfl
   | false=>exact za_.setK_eq r i o _
def Opd.ev (fr:zd_):Opd->AV
 | .t i=>fr.get i
 | .c v=>v
 | .f i=>.fn i [] []
def K4_:AV->(AV->Prop)->Prop
 | .undef,K=>K .undef
 | .skp,K=>K .skp
 | .int k n,K=>K (.int k n)
 | .bool b,K=>K (.bool b)
 | .kb b,K=>K (.kb b)
 | .str l,K=>K (.str l)
 | .nilp,K=>K .nilp
 | .nilm,K=>K .nilm
 | .nils,K=>K .nils
 | .ptr i o,K=>K (.ptr i o)
 | .imm t x,K=>K (.imm t x)
 | .iptr t x i o,K=>K (.iptr t x i o)
 | .own i,K=>K (.own i)
 | .view i o n,K=>K (.view i o n)
 | .rptr i j o,K=>K (.rptr i j o)
 | .mapv i,K=>K (.mapv i)
 | .bview i o n t,K=>K (.bview i o n t)
 | .agg l,K=>K (.agg l)
 | .fn f l c,K=>K (.fn f l c)
 | .tup l,K=>K (.tup l)
 | .yv l,K=>K (.yv l)
 | .fnp f i,K=>K (.fnp f i)
def ZU_:List AV->(List AV->Prop)->Prop
 | [],K=>K []
 | v :: r,K=>K4_ v fun v=>ZU_ r fun r=>K (v :: r)
def v2_ (v:AV) (K:AV->Prop):Prop:=match v with
 | .agg l=>ZU_ l fun l=>K (.agg l)
 | v=>K4_ v K
def Qy_:List AV->(List AV->Prop)->Prop
 | [],K=>K []
 | v :: r,K=>v2_ v fun v=>Qy_ r fun r=>K (v :: r)
def kZ_ (v:AV) (K:AV->Prop):Prop:=match v with
 | .agg l=>ZU_ l fun l=>K (.agg l)
 | .fn f l c=>Qy_ l fun l=>Qy_ c fun c=>K (.fn f l c)
 | .tup l=>Qy_ l fun l=>K (.tup l)
 | v=>K4_ v K
theorem Jx_ (v:AV) (K:AV->Prop):K4_ v K=K v:=by cases v<;>rfl
theorem z7_:∀ (l:List AV) (K:List AV->Prop),ZU_ l K=K l
 | [],_=>rfl
 | v :: r,K=>by unfold ZU_;rw [Jx_];exact z7_ r _
theorem Xm_ (v:AV) (K:AV->Prop):v2_ v K=K v:=by
 cases v<;>first | rfl | exact z7_ _ _
theorem km_:∀ (l:List AV) (K:List AV->Prop),Qy_ l K=K l
 | [],_=>rfl
 | v :: r,K=>by unfold Qy_;rw [Xm_];exact km_ r _
theorem QU_ (v:AV) (K:AV->Prop):kZ_ v K=K v:=by
 cases v with
 | agg l=>exact z7_ _ _
 | tup l=>exact km_ _ _
 | fn f l c=>unfold kZ_;simp only [km_]
 | _=>rfl
def xM_ (n:Nat) (K:Nat->Prop):Prop:=match Nat.ble 64 n with
 | true=>K n
 | false=>match Nat.ble 32 n with | true=>(match Nat.ble 48 n with | true=>(match Nat.ble 56 n with | true=>(match Nat.ble 60 n with | true=>(match Nat.ble 62 n with | true=>(match Nat.ble 63 n with | true=>(K 63) | false=>(K 62)) | false=>(match Nat.ble 61 n with | true=>(K 61) | false=>(K 60))) | false=>(match Nat.ble 58 n with | true=>(match Nat.ble 59 n with | true=>(K 59) | false=>(K 58)) | false=>(match Nat.ble 57 n with | true=>(K 57) | false=>(K 56)))) | false=>(match Nat.ble 52 n with | true=>(match Nat.ble 54 n with | true=>(match Nat.ble 55 n with | true=>(K 55) | false=>(K 54)) | false=>(match Nat.ble 53 n with | true=>(K 53) | false=>(K 52))) | false=>(match Nat.ble 50 n with | true=>(match Nat.ble 51 n with | true=>(K 51) | false=>(K 50)) | false=>(match Nat.ble 49 n with | true=>(K 49) | false=>(K 48))))) | false=>(match Nat.ble 40 n with | true=>(match Nat.ble 44 n with | true=>(match Nat.ble 46 n with | true=>(match Nat.ble 47 n with | true=>(K 47) | false=>(K 46)) | false=>(match Nat.ble 45 n with | true=>(K 45) | false=>(K 44))) | false=>(match Nat.ble 42 n with | true=>(match Nat.ble 43 n with | true=>(K 43) | false=>(K 42)) | false=>(match Nat.ble 41 n with | true=>(K 41) | false=>(K 40)))) | false=>(match Nat.ble 36 n with | true=>(match Nat.ble 38 n with | true=>(match Nat.ble 39 n with | true=>(K 39) | false=>(K 38)) | false=>(match Nat.ble 37 n with | true=>(K 37) | false=>(K 36))) | false=>(match Nat.ble 34 n with | true=>(match Nat.ble 35 n with | true=>(K 35) | false=>(K 34)) | false=>(match Nat.ble 33 n with | true=>(K 33) | false=>(K 32)))))) | false=>(match Nat.ble 16 n with | true=>(match Nat.ble 24 n with | true=>(match Nat.ble 28 n with | true=>(match Nat.ble 30 n with | true=>(match Nat.ble 31 n with | true=>(K 31) | false=>(K 30)) | false=>(match Nat.ble 29 n with | true=>(K 29) | false=>(K 28))) | false=>(match Nat.ble 26 n with | true=>(match Nat.ble 27 n with | true=>(K 27) | false=>(K 26)) | false=>(match Nat.ble 25 n with | true=>(K 25) | false=>(K 24)))) | false=>(match Nat.ble 20 n with | true=>(match Nat.ble 22 n with | true=>(match Nat.ble 23 n with | true=>(K 23) | false=>(K 22)) | false=>(match Nat.ble 21 n with | true=>(K 21) | false=>(K 20))) | false=>(match Nat.ble 18 n with | true=>(match Nat.ble 19 n with | true=>(K 19) | false=>(K 18)) | false=>(match Nat.ble 17 n with | true=>(K 17) | false=>(K 16))))) | false=>(match Nat.ble 8 n with | true=>(match Nat.ble 12 n with | true=>(match Nat.ble 14 n with | true=>(match Nat.ble 15 n with | true=>(K 15) | false=>(K 14)) | false=>(match Nat.ble 13 n with | true=>(K 13) | false=>(K 12))) | false=>(match Nat.ble 10 n with | true=>(match Nat.ble 11 n with | true=>(K 11) | false=>(K 10)) | false=>(match Nat.ble 9 n with | true=>(K 9) | false=>(K 8)))) | false=>(match Nat.ble 4 n with | true=>(match Nat.ble 6 n with | true=>(match Nat.ble 7 n with | true=>(K 7) | false=>(K 6)) | false=>(match Nat.ble 5 n with | true=>(K 5) | false=>(K 4))) | false=>(match Nat.ble 2 n with | true=>(match Nat.ble 3 n with | true=>(K 3) | false=>(K 2)) | false=>(match Nat.ble 1 n with | true=>(K 1) | false=>(K 0))))))
theorem Ki_ (n:Nat) (K:Nat->Prop):xM_ n K=K n:=by
 by_cases h:64<=n
 ·unfold xM_;rw [Nat.ble_eq_true_of_le h]
 ·have:n=0\/n=1\/n=2\/n=3\/n=4\/n=5\/n=6\/n=7\/n=8\/n=9\/n=10\/n=11\/n=12\/n=13\/n=14\/n=15\/n=16\/n=17\/n=18\/n=19\/n=20\/n=21\/n=22\/n=23\/n=24\/n=25\/n=26\/n=27\/n=28\/n=29\/n=30\/n=31\/n=32\/n=33\/n=34\/n=35\/n=36\/n=37\/n=38\/n=39\/n=40\/n=41\/n=42\/n=43\/n=44\/n=45\/n=46\/n=47\/n=48\/n=49\/n=50\/n=51\/n=52\/n=53\/n=54\/n=55\/n=56\/n=57\/n=58\/n=59\/n=60\/n=61\/n=62\/n=63:=by omega
  rcases this with rfl | rfl | rfl | rfl | rfl | rfl | rfl | rfl | rfl | rfl | rfl | rfl | rfl | rfl | rfl | rfl | rfl | rfl | rfl | rfl | rfl | rfl | rfl | rfl | rfl | rfl | rfl | rfl | rfl | rfl | rfl | rfl | rfl | rfl | rfl | rfl | rfl | rfl | rfl | rfl | rfl | rfl | rfl | rfl | rfl | rfl | rfl | rfl | rfl | rfl | rfl | rfl | rfl | rfl | rfl | rfl | rfl | rfl | rfl | rfl | rfl | rfl | rfl | rfl<;>rfl
def gN_ (v:AV) (K:AV->Prop):Prop:=match v with
 | .kb b=>K (.bool b)
 | v=>K4_ v K
def Xi_:List AV->(List AV->Prop)->Prop
 | [],K=>K []
 | v :: r,K=>gN_ v fun v=>Xi_ r fun r=>K (v :: r)
def GM_ (v:AV) (K:AV->Prop):Prop:=match v with
 | .agg l=>Xi_ l fun l=>K (.agg l)
 | v=>gN_ v K
def Yx_:List AV->(List AV->Prop)->Prop
 | [],K=>K []
 | v :: r,K=>GM_ v fun v=>Yx_ r fun r=>K (v :: r)
def Uj_ (v:AV) (K:AV->Prop):Prop:=match v with
 | .agg l=>Xi_ l fun l=>K (.agg l)
 | .fn f l c=>Yx_ l fun l=>Yx_ c fun c=>K (.fn f l c)
 | .undef=>False
 | .skp=>False
 | .tup _=>False
 | v=>gN_ v K
def jH_:List AV->(List AV->Prop)->Prop
 | [],K=>K []
 | v :: r,K=>Uj_ v fun v=>jH_ r fun r=>K (v :: r)
def cnd (b:Bool) (x y:Prop):Prop:=∀ t:Bool,b=t->match t with | true=>x | false=>y
theorem JB_ {b:Bool} {x y:Prop} (h:cnd b x y):(b=true/\x)\/(b=false/\y):=by
 have:=h b rfl
 cases b with
 | true=>exact .inl ⟨rfl,this⟩
 | false=>exact .inr ⟨rfl,this⟩
def need (p q:Prop):Prop:=∀ r:Prop,(p->q->r)->r
theorem jJ_ {p q:Prop} (h:p) (h':p->q):need p q:=fun _ k=>k h (h' h)
theorem zf_ {p q:Prop} (h:need p q):p/\q:=h _ fun a b=>⟨a,b⟩
def ari (k:IntKind) (n:Int) (K:Int->Prop):Prop:=∀ r:Prop,((k.min<=n/\n<=k.max->K n->r)/\(K (k.wrap n)->r))->r
def post (p:Prop):Prop:=∀ r:Prop,(p->r)->r
theorem jG_ {p:Prop} (h:post p):p:=h _ fun a=>a
abbrev Sum:=List AV->List Obj->(AV->List Obj->Prop)->Prop
inductive SumK where
 | ro (S:List AV->List Obj->(AV->Prop)->Prop)
 | rw (S:Sum)
 | nd (S:Sum)
abbrev Env:=List (Nat × SumK)
def Env.get:Env->Nat->Option SumK
 | [],_=>none
 | (j,s) :: r,i=>match Nat.beq j i with | true=>some s | false=>Env.get r i
def qJ_ (op:BinOp) (k:IntKind) (a b:Int):Int:=
 let x:=BitVec.ofInt k.bits a
 let y:=BitVec.ofInt k.bits b
 k.wrap (match op with | .and=>(x &&& y).toNat | .or=>(x ||| y).toNat | .xor=>(x ^^^ y).toNat | _=>(x &&& ~~~y).toNat)
def qo_ (x y:AV) (K:IntKind->Int->Int->Prop):Prop:=match x,y with
 | .int k a,.int k' b=>match decEq k k' with | isTrue _=>K k a b | isFalse _=>False
 | _,_=>False
def qe_ (op:BinOp) (x y:AV) (K:AV->Prop):Prop:=
 match op with
 | .shl=>match x,y with
   | .int k a,.int _ b=>need (0<=b) (ari k (a*2 ^ (min b.toNat k.bits)) fun n=>K (.int k n))
   | _,_=>False
 | .shr=>match x,y with
   | .int k a,.int _ b=>need (0<=b) (K (.int k (a.fdiv (2 ^ (min b.toNat k.bits)))))
   | _,_=>False
 | .add=>match x,y with
   | .str a,.str b=>need (a.length+b.length<=140737488355328) (K (.str (a++b)))
   | x,y=>qo_ x y fun k a b=>ari k (a+b) fun n=>K (.int k n)
 | .sub=>qo_ x y fun k a b=>ari k (a - b) fun n=>K (.int k n)
 | .mul=>qo_ x y fun k a b=>ari k (a*b) fun n=>K (.int k n)
 | .quo=>qo_ x y fun k a b=>need (b ≠ 0) (ari k (a.tdiv b) fun n=>K (.int k n))
 | .rem=>qo_ x y fun k a b=>need (b ≠ 0) (K (.int k (a.tmod b)))
 | .and=>qo_ x y fun k a b=>K (.int k (qJ_ .and k a b))
 | .or=>qo_ x y fun k a b=>K (.int k (qJ_ .or k a b))
 | .xor=>qo_ x y fun k a b=>K (.int k (qJ_ .xor k a b))
 | .andNot=>qo_ x y fun k a b=>K (.int k (qJ_ .andNot k a b))
 | .eql=>match x,y with
   | .str a,.str b=>K (.bool (decide (a=b)))
   | x,y=>qo_ x y fun _ a b=>K (.bool (decide (a=b)))
 | .neq=>match x,y with
   | .str a,.str b=>K (.bool (!decide (a=b)))
   | x,y=>qo_ x y fun _ a b=>K (.bool (!decide (a=b)))
 | .lss=>qo_ x y fun _ a b=>K (.bool (decide (a < b)))
 | .leq=>qo_ x y fun _ a b=>K (.bool (decide (a<=b)))
 | .gtr=>qo_ x y fun _ a b=>K (.bool (decide (b < a)))
 | .geq=>qo_ x y fun _ a b=>K (.bool (decide (b<=a)))
def GW_ (op:UnOp) (x:AV) (K:AV->Prop):Prop:=
 match op,x with
 | .not,.bool b=>K (.bool (!b))
 | .not,.kb b=>K (.kb (match b with | true=>false | false=>true))
 | .neg,.int k n=>ari k (0 - n) fun n=>K (.int k n)
 | .xor,.int k n=>K (.int k (qJ_ .xor k (if k.signed then -1 else k.max) n))
 | _,_=>False
def cut (n:Option Nat) (off:Nat) (l:List AV) (K:AV->Prop):Prop:=
 match n with
 | none=>match l.drop off with | v :: _=>K4_ v K | []=>False
 | some n=>match decide (off+n<=l.length) with | true=>ZU_ ((l.drop off).take n) fun l=>K (.agg l) | false=>False
def put (l:List AV) (off:Nat) (cs:List AV):List AV:=
 match off,l,cs with
 | _,l,[]=>l
 | 0,_ :: l,c :: cs=>c :: put l 0 cs
 | 0,[],_=>[]
 | _+1,[],_=>[]
 | o+1,x :: l,cs=>x :: put l o cs
def fill (fr:zd_):List AV->List (Nat × Nat × Opd)->Option (List AV)
 | l,[]=>some l
 | l,(off,size,x) :: r=>match (x.ev fr).flat with
   | some c=>match decide (c.length=size) && decide (off+size<=l.length) with
     | true=>fill fr (put l off c) r
     | false=>none
   | none=>none
def Ut_:List AV->Nat->Bool
 | [],0=>true
 | _ :: r,n+1=>Ut_ r n
 | _,_=>false
def xY_ (fr:zd_) (tot:Nat):Nat->List (Nat × Nat × Opd)->(List AV->Prop)->Prop
 | off,[],K=>match Nat.beq off tot with | true=>K [] | false=>False
 | off,(o,size,x) :: r,K=>match Nat.beq o off with
   | true=>match (x.ev fr).flat with
     | some c=>match Ut_ c size with
       | true=>ZU_ c fun c=>xY_ fr tot (o+size) r fun l=>ZU_ (c++l) K
       | false=>False
     | none=>False
   | false=>False
def Ty.all (t:Ty):Nat->List AV->Option (List t.den)
 | 0,[]=>some []
 | 0,_=>none
 | n+1,l=>
   match t.ofCells l with
   | some (x,r)=>match Ty.all t n r with | some y=>some (x :: y) | none=>none
   | none=>none
def YQ_ (k:IntKind):List AV->(List Int->Prop)->Prop
 | [],K=>K []
 | .int k' n :: r,K=>match decEq k' k with | isTrue _=>YQ_ k r fun r=>K (n :: r) | isFalse _=>False
 | _ :: _,_=>False
def K9_ (off n:Nat) (t:Ty) (l:List AV) (K:List t.den->Prop):Prop:=match Nat.ble (off+n*t.size) l.length with
 | true=>t.allK n ((l.drop off).take (n*t.size)) K
 | false=>False
def j0_ (t:Ty) (st:za_) (v:AV) (K:List t.den->Prop):Prop:=
 match v with
 | .nils=>K []
 | .imm t' x=>Qz_ t' t x K
 | .own i=>match st.get i with
   | some (.row _ t' x)=>Qz_ t' t x K
   | _=>False
 | .view i off n=>match st.get i with
   | some (.row _ t' x)=>Qz_ t' t x fun x=>need (off+n<=x.length) (K ((x.drop off).take n))
   | _=>False
 | .bview i off n t'=>match st.get i with
   | some (.box l)=>K9_ off n t' l fun x=>Qz_ t' t x K
   | _=>False
 | _=>False
def uy_ (st:za_) (v:AV) (K:AV->za_->Prop):Prop:=
 match v with
 | .own i=>match st.get i with
   | some (.row fz t x)=>match fz with | true=>K (.imm t x) st | false=>st.setK i (.row true t x) fun st=>K (.imm t x) st
   | _=>False
 | .view i off n=>match st.get i with
   | some (.row fz t x)=>need (off+n<=x.length) (match fz with | true=>K (.imm t ((x.drop off).take n)) st | false=>st.setK i (.row true t x) fun st=>K (.imm t ((x.drop off).take n)) st)
   | _=>False
 | v=>K v st
def WL_ (st:za_):List AV->(List AV->za_->Prop)->Prop
 | [],K=>K [] st
 | v :: r,K=>uy_ st v fun v st=>WL_ st r fun r st=>K (v :: r) st
def gT_ (st:za_) (v:AV) (K:AV->za_->Prop):Prop:=
 match v with
 | .agg l=>WL_ st l fun l st=>K (.agg l) st
 | v=>uy_ st v K
def KY_ (v:AV) (K:Int->Prop):Prop:=match v with | .int _ n=>K n | _=>False
def xC_ (d:Int) (o:Option Opd) (fr:zd_) (K:Int->Prop):Prop:=match o with | none=>K d | some o=>KY_ (o.ev fr) K
def Ty.one (t:Ty) (l:List AV):Option t.den:=match t.ofCells l with | some (x,[])=>some x | _=>none
def hV_:Ty->Bool | .nil=>true | .cons _ _=>true | _=>false
def AV.isAgg:AV->Bool | .agg _=>true | _=>false
instance Ty.deq:(t:Ty)->DecidableEq t.den
 | .int _=>inferInstanceAs (DecidableEq Int)
 | .bool=>inferInstanceAs (DecidableEq Bool)
 | .str=>inferInstanceAs (DecidableEq (List Int))
 | .nil=>inferInstanceAs (DecidableEq Unit)
 | .cons a b=>have:=Ty.deq a;have:=Ty.deq b;inferInstanceAs (DecidableEq (a.den × b.den))
 | .sl t=>have:=Ty.deq t;inferInstanceAs (DecidableEq (List t.den))
section maps
variable {α β:Type} [DecidableEq α]
def gP_ (l:List (α × β)) (k:α):Nat:=match l with
 | []=>0
 | (a,_) :: r=>if a=k then 0 else gP_ r k+1
end maps
def WJ_ (i:Nat):List Nat->Nat->Option Nat
 | [],_=>none
 | j :: r,n=>match Nat.beq j i with | true=>some n | false=>WJ_ i r (n+1)
def KC_ (i:Nat) (ρ:List Nat) (K:Nat->List Nat->Prop):Prop:=match WJ_ i ρ 0 with
 | some j=>K j ρ
 | none=>K ρ.length (ρ++[i])
def U2_ (v:AV) (ρ:List Nat) (K:AV->List Nat->Prop):Prop:=match v with
 | .ptr i o=>KC_ i ρ fun j ρ=>K (.ptr j o) ρ
 | .own i=>KC_ i ρ fun j ρ=>K (.own j) ρ
 | .view i o n=>KC_ i ρ fun j ρ=>K (.view j o n) ρ
 | .rptr i k o=>KC_ i ρ fun j ρ=>K (.rptr j k o) ρ
 | .mapv i=>KC_ i ρ fun j ρ=>K (.mapv j) ρ
 | .fnp f i=>KC_ i ρ fun j ρ=>K (.fnp f j) ρ
 | .bview i o n t=>KC_ i ρ fun j ρ=>K (.bview j o n t) ρ
 | v=>K v ρ
def WY_:List AV->List Nat->(List AV->List Nat->Prop)->Prop
 | [],ρ,K=>K [] ρ
 | v :: r,ρ,K=>U2_ v ρ fun v ρ=>WY_ r ρ fun r ρ=>K (v :: r) ρ
def uJ_ (v:AV) (ρ:List Nat) (K:AV->List Nat->Prop):Prop:=match v with
 | .agg l=>WY_ l ρ fun l ρ=>K (.agg l) ρ
 | v=>U2_ v ρ K
def J3_:List AV->List Nat->(List AV->List Nat->Prop)->Prop
 | [],ρ,K=>K [] ρ
 | v :: r,ρ,K=>uJ_ v ρ fun v ρ=>J3_ r ρ fun r ρ=>K (v :: r) ρ
def Vc_ (v:AV) (ρ:List Nat) (K:AV->List Nat->Prop):Prop:=match v with
 | .fn f l c=>J3_ l ρ fun l ρ=>J3_ c ρ fun c ρ=>K (.fn f l c) ρ
 | .tup l=>J3_ l ρ fun l ρ=>K (.tup l) ρ
 | v=>uJ_ v ρ K
def j1_:List AV->List Nat->(List AV->List Nat->Prop)->Prop
 | [],ρ,K=>K [] ρ
 | v :: r,ρ,K=>Vc_ v ρ fun v ρ=>j1_ r ρ fun r ρ=>K (v :: r) ρ
def JC_ (o:Obj) (ρ:List Nat) (K:Obj->List Nat->Prop):Prop:=match o with
 | .box l=>Xi_ l fun l=>WY_ l ρ fun l ρ=>K (.box l) ρ
 | .row fz t x=>K (.row fz t x) ρ
 | .map q kt vt l=>K (.map q kt vt l) ρ
 | .dead=>K .dead ρ
 | .iter s p=>K (.iter s p) ρ
 | .lrec r c=>K (.lrec r c) ρ
 | .miter v n s=>U2_ v ρ fun v ρ=>K (.miter v n s) ρ
 | .rowp t x l c=>K (.rowp t x l c) ρ
def qX_ (st:za_):Nat->Nat->List Nat->(List Obj->List Nat->Prop)->Prop
 | 0,_,_,_=>False
 | n+1,j,ρ,K=>match ρ.drop j with
   | []=>K [] ρ
   | i :: _=>match st.get i with
     | some o=>JC_ o ρ fun o ρ=>qX_ st n (j+1) ρ fun l ρ=>K (o :: l) ρ
     | none=>False
def unI (ρ:List Nat) (nx j:Nat) (K:Nat->Prop):Prop:=match ρ.drop j with | i :: _=>K i | []=>xM_ (nx+(j - ρ.length)) K
def un0 (ρ:List Nat) (nx:Nat) (v:AV) (K:AV->Prop):Prop:=match v with
 | .ptr i o=>unI ρ nx i fun j=>K (.ptr j o)
 | .own i=>unI ρ nx i fun j=>K (.own j)
 | .view i o n=>unI ρ nx i fun j=>K (.view j o n)
 | .rptr i k o=>unI ρ nx i fun j=>K (.rptr j k o)
 | .mapv i=>unI ρ nx i fun j=>K (.mapv j)
 | .fnp f i=>unI ρ nx i fun j=>K (.fnp f j)
 | .bview i o n t=>unI ρ nx i fun j=>K (.bview j o n t)
 | v=>K4_ v K
def uW_ (ρ:List Nat) (nx:Nat):List AV->(List AV->Prop)->Prop
 | [],K=>K []
 | v :: r,K=>un0 ρ nx v fun v=>uW_ ρ nx r fun r=>K (v :: r)
def un1 (ρ:List Nat) (nx:Nat) (v:AV) (K:AV->Prop):Prop:=match v with
 | .agg l=>uW_ ρ nx l fun l=>K (.agg l)
 | v=>un0 ρ nx v K
def V4_ (ρ:List Nat) (nx:Nat):List AV->(List AV->Prop)->Prop
 | [],K=>K []
 | v :: r,K=>un1 ρ nx v fun v=>V4_ ρ nx r fun r=>K (v :: r)
def un2 (ρ:List Nat) (nx:Nat) (v:AV) (K:AV->Prop):Prop:=match v with
 | .fn f l c=>V4_ ρ nx l fun l=>V4_ ρ nx c fun c=>K (.fn f l c)
 | .tup l=>V4_ ρ nx l fun l=>K (.tup l)
 | v=>un1 ρ nx v K
def Vu_ (ρ:List Nat) (nx:Nat) (o:Obj) (K:Obj->Prop):Prop:=match o with
 | .box l=>uW_ ρ nx l fun l=>K (.box l)
 | .row fz t x=>K (.row fz t x)
 | .map q kt vt l=>K (.map q kt vt l)
 | .dead=>K .dead
 | .iter s p=>K (.iter s p)
 | .lrec r c=>K (.lrec r c)
 | .miter v n s=>un0 ρ nx v fun v=>K (.miter v n s)
 | .rowp t x l c=>K (.rowp t x l c)
def go_ (ρ:List Nat) (nx:Nat):Nat->List Obj->za_->(za_->Prop)->Prop
 | _,[],st,K=>K st
 | j,o :: r,st,K=>unI ρ nx j fun i=>Vu_ ρ nx o fun o=>st.setK i o fun st=>go_ ρ nx (j+1) r st K
def qT_ (st:za_) (v:AV) (js:List Nat) (K:AV->List Nat->Prop):Prop:=match v with
 | .own i=>match st.get i with
   | some (.row _ t x)=>K (.imm t x) (i :: js)
   | _=>False
 | .view i off n=>match st.get i with
   | some (.row _ t x)=>need (off+n<=x.length) (K (.imm t ((x.drop off).take n)) (i :: js))
   | _=>False
 | .bview i off n t=>match st.get i with
   | some (.box l)=>K9_ off n t l fun x=>K (.imm t x) (i :: js)
   | _=>False
 | v=>K v js
def XB_ (st:za_):List AV->List Nat->(List AV->List Nat->Prop)->Prop
 | [],js,K=>K [] js
 | v :: r,js,K=>qT_ st v js fun v js=>XB_ st r js fun r js=>K (v :: r) js
def uM_ (st:za_) (v:AV) (js:List Nat) (K:AV->List Nat->Prop):Prop:=match v with
 | .agg l=>XB_ st l js fun l js=>K (.agg l) js
 | v=>qT_ st v js K
def XA_ (st:za_):List AV->List Nat->(List AV->List Nat->Prop)->Prop
 | [],js,K=>K [] js
 | v :: r,js,K=>uM_ st v js fun v js=>XA_ st r js fun r js=>K (v :: r) js
def AV.ni0:AV->Bool
 | .imm _ _=>false
 | .iptr _ _ _ _=>false
 | .agg _=>false
 | .fn _ _ _=>false
 | .tup _=>false
 | _=>true
def qL_ (p:AV->Bool):List AV->Bool
 | []=>true
 | v :: r=>match p v with | true=>qL_ p r | false=>false
def VM_ (v:AV):Bool:=match v with | .undef=>false | .skp=>false | .tup _=>false | .fn _ _ _=>false | _=>true
def AV.ni1:AV->Bool
 | .agg l=>qL_ AV.ni0 l
 | v=>v.ni0
def AV.ni:AV->Bool
 | .tup l=>qL_ AV.ni1 l
 | v=>v.ni1
def Obj.ni:Obj->Bool
 | .box l=>qL_ AV.ni0 l
 | .row fz t _=>match fz with | true=>false | false=>t.plain
 | .map _ kt vt _=>match kt.plain with | true=>vt.plain | false=>false
 | .dead=>true
 | .iter _ _=>true
 | .lrec _ _=>true
 | .miter v _ _=>v.ni0
 | .rowp t _ _ _=>t.plain
def niO:List Obj->Bool
 | []=>true
 | o :: r=>match o.ni with | true=>niO r | false=>false
def U9_ (a b:Bool):Bool:=match a with | true=>b | false=>false
def Jw_ (st:za_):List Nat->(za_->Prop)->Prop
 | [],K=>K st
 | i :: r,K=>match st.get i with
   | some (.row fz t x)=>match fz with | true=>Jw_ st r K | false=>st.setK i (.row true t x) fun st=>Jw_ st r K
   | _=>False
def KZ_ (i:Nat):List Nat->Bool
 | []=>false
 | j :: r=>match Nat.beq j i with | true=>true | false=>KZ_ i r
def jZ_:List Nat->List Nat->Bool
 | [],_=>true
 | i :: r,ρ=>match KZ_ i ρ with | true=>false | false=>jZ_ r ρ
def VV_ (ρ js:List Nat) (nx k:Nat) (st:za_) (v:AV) (objs:List Obj) (K:AV->za_->Nat->Prop):Prop:=
 match Nat.ble k objs.length with
 | true=>un2 ρ nx v fun v=>go_ ρ nx 0 objs st fun st'=>match js with
   | []=>K v st' (nx+(objs.length - k))
   | _ :: _=>match (U9_ v.ni (niO objs)) with
     | true=>K v st' (nx+(objs.length - k))
     | false=>Jw_ st' js fun st'=>K v st' (nx+(objs.length - k))
 | false=>False
def roK (js:List Nat) (nx:Nat) (st:za_) (v:AV) (objs:List Obj) (K:AV->za_->Nat->Prop):Prop:=match js with
 | []=>K v st nx
 | _ :: _=>match (U9_ v.ni (niO objs)) with | true=>K v st nx | false=>Jw_ st js fun st=>K v st nx
def W0_ (s:SumK) (args:List AV) (js:List Nat) (st:za_) (nx:Nat) (K:AV->za_->Nat->Prop):Prop:=
 j1_ args [] fun args ρ=>qX_ st 1000 0 ρ fun objs ρ=>match jZ_ js ρ with
  | true=>match s with
    | .ro S=>S args objs fun v=>un2 ρ nx v fun v=>roK js nx st v objs K
    | .rw S=>S args objs fun v objs'=>VV_ ρ js nx objs.length st v objs' K
    | .nd _=>False
  | false=>False
def U4_ (S:Sum) (args:List AV) (js:List Nat) (st:za_) (nx:Nat) (K:AV->za_->Nat->Prop):Prop:=
 j1_ args [] fun args ρ=>qX_ st 1000 0 ρ fun objs ρ=>match jZ_ js ρ with
  | true=>S args objs fun v objs'=>VV_ ρ js nx objs.length st v objs' K
  | false=>False
def U5_ (s:SumK) (own:Bool) (args:List AV) (st:za_) (nx:Nat) (K:AV->za_->Nat->Prop):Prop:=
 match own with
 | true=>W0_ s args [] st nx K
 | false=>XA_ st args [] fun args js=>W0_ s args js st nx K
def Xu_ (k:IntKind) (ys:List Int):Nat->List Int->List AV
 | _,[]=>[]
 | j,o :: r=>.int k (if j < ys.length then ys.getD j 0 else o) :: Xu_ k ys (j+1) r
def GC_ (t:Ty) (st:za_) (v:AV) (K:List t.den->Prop):Prop:=match v with
 | .str l=>Qz_ (.int .u8) t l K
 | v=>j0_ t st v K
def Y1_:List Leaf->List AV->List AV->(Bool->Prop)->Prop
 | [],[],[],K=>K true
 | .int q :: ks,.int k a :: r,.int k' b :: r',K=>match decEq k q with
   | isTrue _=>match decEq k' q with
     | isTrue _=>Y1_ ks r r' fun t=>K (decide (a=b) && t)
     | isFalse _=>False
   | isFalse _=>False
 | .str :: ks,.str a :: r,.str b :: r',K=>Y1_ ks r r' fun t=>K (decide (a=b) && t)
 | .bool :: ks,v :: r,v' :: r',K=>match v.toB with
   | some a=>match v'.toB with
     | some b=>Y1_ ks r r' fun t=>K ((a == b) && t)
     | none=>False
   | none=>False
 | _,_,_,_=>False
structure AllC (P Q:Nat->Prop):Prop where
 go:∀ c,P c->Q c
def zl_ (Γ:Env) (o:IOp) (fr:zd_) (st:za_) (nx:Nat) (K:AV->za_->Nat->Prop):Prop:=
 match o with
 | .mov x=>kZ_ (x.ev fr) fun v=>K v st nx
 | .bin op x y=>qe_ op (x.ev fr) (y.ev fr) fun v=>K v st nx
 | .eqb neg x y=>match (x.ev fr).toB,(y.ev fr).toB with
   | some a,some b=>K (.bool (match neg with | true=>!(a == b) | false=>a == b)) st nx
   | _,_=>False
 | .un op x=>GW_ op (x.ev fr) fun v=>K v st nx
 | .conv k x=>match x.ev fr with | .int _ n=>ari k n fun n=>K (.int k n) st nx | _=>False
 | .pick c x y=>match c.ev fr with
   | .bool b=>cnd b (kZ_ (x.ev fr) fun v=>K v st nx) (kZ_ (y.ev fr) fun v=>K v st nx)
   | .kb b=>match b with | true=>kZ_ (x.ev fr) fun v=>K v st nx | false=>kZ_ (y.ev fr) fun v=>K v st nx
   | _=>False
 | .len x=>match x.ev fr with
   | .imm _ l=>K (.int .i64 l.length) st nx
   | .nils=>K (.int .i64 0) st nx
   | .own i=>match st.get i with | some (.row _ _ l)=>K (.int .i64 l.length) st nx | _=>False
   | .view _ _ n=>K (.int .i64 n) st nx
   | _=>False
 | .slen x=>match x.ev fr with
   | .str l=>K (.int .i64 l.length) st nx
   | _=>False
 | .minmax mx x y=>qo_ (x.ev fr) (y.ev fr) fun k a b=>K (.int k (match mx with | true=>if b > a then b else a | false=>if b < a then b else a)) st nx
 | .fieldAddr f a=>match a.ev fr with
   | .ptr i off=>K (.ptr i (off+f)) st nx
   | .iptr t x i off=>K (.iptr t x i (off+f)) st nx
   | .rptr j i off=>K (.rptr j i (off+f)) st nx
   | _=>False
 | .indexSl size a i=>match a.ev fr,i.ev fr with
   | .imm t x,.int _ n=>match Nat.beq t.size size with
     | true=>need (0<=n/\n < x.length) (K (.iptr t x n.toNat 0) st nx)
     | false=>False
   | .own j,.int _ n=>match st.get j with
     | some (.row _ t x)=>match Nat.beq t.size size with
       | true=>need (0<=n/\n < x.length) (K (.rptr j n.toNat 0) st nx)
       | false=>False
     | _=>False
   | .view j off k,.int _ n=>match st.get j with
     | some (.row _ t _)=>match Nat.beq t.size size with
       | true=>need (0<=n/\n < k) (K (.rptr j (off+n.toNat) 0) st nx)
       | false=>False
     | _=>False
   | _,_=>False
 | .indexArr size m a i=>match a.ev fr,i.ev fr with
   | .ptr j off,.int _ n=>need (0<=n/\n < m) (K (.ptr j (off+n.toNat*size)) st nx)
   | .iptr t x j off,.int _ n=>need (0<=n/\n < m) (K (.iptr t x j (off+n.toNat*size)) st nx)
   | .rptr q j off,.int _ n=>need (0<=n/\n < m) (K (.rptr q j (off+n.toNat*size)) st nx)
   | _,_=>False
 | .sindex x i=>match x.ev fr,i.ev fr with
   | .str l,.int _ m=>need (0<=m/\m < l.length) (K (.int .u8 (l.getD m.toNat 0)) st nx)
   | _,_=>False
 | .build z ps=>match fill fr z ps with
   | some l=>ZU_ l fun l=>K (.agg l) st nx
   | none=>False
 | .buildAll tot ps=>xY_ fr tot 0 ps fun l=>K (.agg l) st nx
 | .slice size x lo hi mx=>match x.ev fr with
   | .nils=>match lo,hi,mx with
     | none,none,none=>K .nils st nx
     | _,_,_=>False
   | .imm t l=>match Nat.beq t.size size with
     | true=>match mx with
       | some z=>match hi with
         | none=>False
         | some y=>xC_ 0 lo fr fun a=>KY_ (y.ev fr) fun b=>KY_ (z.ev fr) fun c=>need (0<=a/\a<=b/\b=c/\b<=l.length) (K (.imm t ((l.take b.toNat).drop a.toNat)) st nx)
       | none=>match lo,hi with
         | none,none=>K (.imm t l) st nx
         | some o,none=>KY_ (o.ev fr) fun a=>need (0<=a/\a<=l.length) (K (.imm t (l.drop a.toNat)) st nx)
         | none,some o=>KY_ (o.ev fr) fun b=>need (0<=b/\b<=l.length) (K (.imm t (l.take b.toNat)) st nx)
         | some o,some o'=>KY_ (o.ev fr) fun a=>KY_ (o'.ev fr) fun b=>need (0<=a/\a<=b/\b<=l.length) (K (.imm t ((l.take b.toNat).drop a.toNat)) st nx)
     | false=>False
   | .own j=>match st.get j with
     | some (.row _ t l)=>match Nat.beq t.size size with
       | true=>match mx with
         | some z=>match hi with
           | none=>False
           | some y=>xC_ 0 lo fr fun a=>KY_ (y.ev fr) fun b=>KY_ (z.ev fr) fun c=>need (0<=a/\a<=b/\b=c/\b<=l.length) (K (.view j a.toNat (b - a).toNat) st nx)
         | none=>match lo,hi with
           | none,none=>K (.own j) st nx
           | lo,hi=>xC_ 0 lo fr fun a=>xC_ l.length hi fr fun b=>need (0<=a/\a<=b/\b<=l.length) (K (.view j a.toNat (b - a).toNat) st nx)
       | false=>False
     | _=>False
   | .view j off n=>match st.get j with
     | some (.row _ t _)=>match Nat.beq t.size size with
       | true=>match mx with
         | some _=>False
         | none=>xC_ 0 lo fr fun a=>xC_ n hi fr fun b=>need (0<=a/\a<=b/\b<=n) (K (.view j (off+a.toNat) (b - a).toNat) st nx)
       | false=>False
     | _=>False
   | _=>False
 | .extract x i=>match x.ev fr with | .tup l=>(match l.drop i with | v :: _=>v2_ v fun v=>K v st nx | []=>False) | _=>False
 | .mkfn f first cap=>match qL_ VM_ (first.map (·.ev fr)) && qL_ VM_ (cap.map (·.ev fr)) with
   | true=>Qy_ (first.map (·.ev fr)) fun l=>Qy_ (cap.map (·.ev fr)) fun c=>K (.fn f l c) st nx
   | false=>False
 | .box z=>K (.ptr nx 0) ((nx,.box z) :: st) (nx+1)
 | .boxv x=>match (x.ev fr).flat with
   | some c=>ZU_ c fun l=>K (.ptr nx 0) ((nx,.box l) :: st) (nx+1)
   | none=>False
 | .load n a=>match a.ev fr with
   | .ptr i off=>match st.get i with
     | some (.box l)=>cut n off l fun v=>K v st nx
     | _=>False
   | .iptr t x i off=>cut n off (t.cells (x.getD i t.dflt)) fun v=>K v st nx
   | .rptr j i off=>match st.get j with
     | some (.row _ t x)=>need (i < x.length) (cut n off (t.cells (x.getD i t.dflt)) fun v=>K v st nx)
     | _=>False
   | _=>False
 | .loadI k a=>match a.ev fr with
   | .ptr i off=>match st.get i with
     | some (.box l)=>need (off < l.length) (YQ_ k l fun r=>K (.int k (r.getD off 0)) st nx)
     | _=>False
   | _=>False
 | .store n a x=>match a.ev fr,(x.ev fr).flat with
   | .ptr i off,some c=>match st.get i with
     | some (.box l)=>match Nat.beq c.length n && Nat.ble (off+c.length) l.length with
       | true=>ZU_ (put l off c) fun l=>st.setK i (.box l) fun st=>K .undef st nx
       | false=>False
     | _=>False
   | .rptr j i off,some c=>WL_ st c fun c st=>match st.get j with
     | some (.row false t y)=>match Nat.beq c.length n && Nat.ble (off+c.length) t.size with
       | true=>need (i < y.length) (t.oneQ (put (t.cells (y.getD i t.dflt)) off c) fun z=>st.setK j (.row false t (y.set i z)) fun st=>K .undef st nx)
       | false=>False
     | _=>False
   | _,_=>False
 | .sliceAll t n ps=>xY_ fr (n*t.size) 0 ps fun l=>WL_ st l fun l st=>t.allK n l fun x=>K (.imm t x) st nx
 | .sliceOwn t n ps=>xY_ fr (n*t.size) 0 ps fun l=>WL_ st l fun l st=>t.allK n l fun x=>K (.own nx) ((nx,.row false t x) :: st) (nx+1)
 | .slice0 t=>K (.own nx) ((nx,.row false t []) :: st) (nx+1)
 | .mkrow t bytes z n c=>KY_ (n.ev fr) fun n=>KY_ (c.ev fr) fun c=>need (0<=n/\n<=c/\c*bytes<=140737488355328/\c<=140737488355328) (K (.own nx) ((nx,.row false t (List.replicate n.toNat z)) :: st) (nx+1))
 | .append t bytes x y=>j0_ t st (y.ev fr) fun ys=>match x.ev fr with
   | .nils=>need (ys.length*bytes<=140737488355328/\ys.length<=140737488355328) (K (.own nx) ((nx,.row false t ys) :: st) (nx+1))
   | .own i=>match st.get i with
     | some (.row false t' x)=>Qz_ t' t x fun x=>need ((x.length+ys.length)*bytes<=140737488355328/\x.length+ys.length<=140737488355328) (st.setK i .dead fun st=>K (.own nx) ((nx,.row false t (x++ys)) :: st) (nx+1))
     | _=>False
   | _=>False
 | .copy t x y=>GC_ t st (y.ev fr) fun ys=>match x.ev fr with
   | .own i=>match st.get i with
     | some (.row false t' x)=>Qz_ t' t x fun x=>st.setK i (.row false t (ys.take x.length++x.drop ys.length)) fun st=>K (.int .i64 (min ys.length x.length:Nat)) st nx
     | _=>False
   | .view i off n=>match st.get i with
     | some (.row false t' x)=>Qz_ t' t x fun x=>need (off+n<=x.length) (st.setK i (.row false t (x.take off++ys.take n++x.drop (off+min ys.length n))) fun st=>K (.int .i64 (min ys.length n:Nat)) st nx)
     | _=>False
   | .bview i off n t'=>match st.get i with
     | some (.box l)=>match t with
       | .int k=>match decEq t' (.int k) with
         | isTrue _=>match Nat.ble (off+n) l.length with
           | true=>YQ_ k ((l.drop off).take n) fun os=>ZU_ (put l off (Xu_ k ys 0 os)) fun l=>st.setK i (.box l) fun st=>K (.int .i64 (min ys.length n:Nat)) st nx
           | false=>False
         | isFalse _=>False
       | _=>False
     | _=>False
   | _=>False
 | .b2s x=>j0_ (.int .u8) st (x.ev fr) fun l=>K (.str l) st nx
 | .call own f args=>match (f.ev fr).asFn with
   | .fn f first cap=>jH_ (first++args.map (·.ev fr)++cap) fun l=>match Γ.get f with
     | some s=>U5_ s own l st nx fun v st nx=>kZ_ v fun v=>K v st nx
     | none=>False
   | _=>False
 | .calln f args=>match (f.ev fr).asFn with
   | .fn f first cap=>jH_ (first++args.map (·.ev fr)++cap) fun l=>match Γ.get f with
     | some (.nd S)=>U4_ S l [] st nx fun v st nx=>kZ_ v fun v=>K v st nx
     | _=>False
   | _=>False
 | .eqs neg ks x y=>match x.ev fr,y.ev fr with
   | .agg l,.agg l'=>Y1_ ks l l' fun b=>K (.bool (match neg with | true=>!b | false=>b)) st nx
   | _,_=>False
 | .capp x=>match x.ev fr with
   | .own i=>match st.get i with
     | some (.row false t x)=>AllC (fun c=>x.length<=c/\c<=9223372036854775807) fun c=>st.setK i (.rowp t x x.length c) fun st=>K (.int .i64 c) st nx
     | _=>False
   | _=>False
 | .sliceX size x hi=>match x.ev fr with
   | .own i=>match st.get i with
     | some (.rowp t x l c)=>match Nat.beq t.size size with
       | true=>KY_ (hi.ev fr) fun b=>need ((l:Int)<=b/\b<=c) (st.setK i .dead fun st=>K (.own nx) ((nx,.rowp t x b.toNat c) :: st) (nx+1))
       | false=>False
     | _=>False
   | _=>False
 | .sliceP size x lo hi=>match x.ev fr with
   | .own i=>match st.get i with
     | some (.rowp t _ l _)=>match Nat.beq t.size size with
       | true=>xC_ 0 lo fr fun a=>xC_ l hi fr fun b=>need (0<=a/\a<=b/\b<=l) (K (.view i a.toNat (b - a).toNat) st nx)
       | false=>False
     | _=>False
   | _=>False
 | .ovl _ x y=>match x.ev fr,y.ev fr with
   | .own i,.view j _ _=>match st.get i with
     | some (.row _ t x)=>match decEq t (.int .u8) with
       | isTrue _=>False
       | isFalse _=>match st.get j with
         | some (.rowp t' y _ _)=>match Nat.beq i j with
           | true=>False
           | false=>need (0 < x.length/\0 < y.length/\0 < t.size/\0 < t'.size) (K (.bool false) st nx)
         | _=>False
     | _=>False
   | _,_=>False
 | .copyP t x y=>match x.ev fr,y.ev fr with
   | .view i off n,.view j off' n'=>match Nat.beq i j with
     | true=>match st.get i with
       | some (.rowp t' x l _)=>Qz_ t' t x fun x=>need (off<=x.length/\off'+min n n'<=x.length/\off+min n n'=l) (st.setK i (.row false t (x.take off++(x.drop off').take (min n n'))) fun st=>K (.int .i64 (min n' n:Nat)) st nx)
       | _=>False
     | false=>False
   | _,_=>False
 | .appendzP t bytes z x n=>KY_ (n.ev fr) fun n=>match x.ev fr with
   | .view i off k=>match off with
     | 0=>match st.get i with
       | some (.rowp t' x l c)=>Qz_ t' t x fun x=>need (0<=n/\(c:Int) < k+n/\k<=x.length/\x.length=l/\(k+n)*bytes<=140737488355328/\k+n<=140737488355328) (st.setK i (.row false t x) fun st=>K (.own nx) ((nx,.row false t (x.take k++List.replicate n.toNat z)) :: st) (nx+1))
       | _=>False
     | _+1=>False
   | _=>False
 | .clr t z x=>match x.ev fr with
   | .view i off n=>match st.get i with
     | some (.row false t' x)=>Qz_ t' t x fun x=>need (off+n<=x.length) (st.setK i (.row false t (x.take off++List.replicate n z++x.drop (off+n))) fun st=>K .undef st nx)
     | _=>False
   | _=>False
end Go.Eng
